/- Texts of this claim, put together by a program: RefNorm, HMay, Join, RunIn, Pairs, JoinP, HSame, Live, LawF, HMade, RefProj, LawP, Any, JoinL, LiveP. -/
import Derived.Test.YtmkgecapkeojaaaGreatV12
import Derived.Scope
import Derived.Deep.DeepCutAuto
set_option linter.unusedVariables false
set_option linter.unusedSimpArgs false
set_option maxHeartbeats 8000000
set_option maxRecDepth 100000
section
namespace Go.Proofs.YtmkgecapkeojaaaGreat.Eg
open Go.Proofs.YtmkgecapkeojaaaGreat Go.Proofs.YtmkgecapkeojaaaGreat.PDa
open Go.RowKit Go.Proofs.YtmkgecapkeojaaaGreatW.PrintWords Go.Proofs.YtmkgecapkeojaaaGreatW.PrintLast Go.Proofs.YtmkgecapkeojaaaGreatW.PrintMore
open Go.Proofs.YtmkgecapkeojaaaGreat.Stp Go.Proofs.YtmkgecapkeojaaaGreat.Run Go.Proofs.YtmkgecapkeojaaaGreat.Rw
def refL (g : List Jp -> List Jp × Int) (out : List EdP) : List (List Vl × List Jp) -> List EdP × Int
 | [] => if 4096 < out.length then ([], 7) else (out, 0)
 | x :: xs => if (g x.2).2 ≠ 0 then ([], (g x.2).2) else refL g (putP out x.1 (g x.2).1) xs
theorem putP_len (out : List EdP) (r : List Vl) (f : List Jp) : (putP out r f).length = out.length + f.length := by simp [putP]
theorem refL_full (g : List Jp -> List Jp × Int) : ∀ (xs : List (List Vl × List Jp)) (out : List EdP), (∀ x ∈ xs, (g x.2).2 ≠ 0 -> (g x.2).2 = 7) -> 4096 < out.length -> refL g out xs = ([], 7)
 | [], out, _, h => by rw [refL, if_pos h]
 | x :: xs, out, hx, h => by
  rw [refL]
  split
  ·rename_i c; rw [hx x List.mem_cons_self c]
  ·exact refL_full g xs _ (fun y hy => hx y (List.mem_cons_of_mem _ hy)) (by rw [putP_len]; omega)
theorem refL_map (g : List Jp -> List Jp × Int) : ∀ (xs : List (List Vl × List Jp)) (out : List EdP), (∀ x ∈ xs, (g x.2).2 ≠ 0 -> (g x.2).2 = 7) -> out.length <= 4096 -> refL g out xs = mapR g out xs
 | [], out, _, h => by rw [refL, if_neg zq4, mapR]
 | x :: xs, out, hx, h => by
  rw [refL, mapR]
  split
  ·rfl
  ·split
   ·rename_i c; exact refL_full g xs _ (fun y hy => hx y (List.mem_cons_of_mem _ hy)) c
   ·exact refL_map g xs _ (fun y hy => hx y (List.mem_cons_of_mem _ hy)) zq4
theorem refL_drop (g : List Jp -> List Jp × Int) (out : List EdP) (gs : List (List Vl × List Jp)) (i : Nat) (h : i < gs.length) : refL g out (gs.drop i) = if (g gs[i].2).2 ≠ 0 then ([], (g gs[i].2).2) else refL g (putP out gs[i].1 (g gs[i].2).1) (gs.drop (i + 1)) := by
 rw [List.drop_eq_getElem_cons h, refL]
theorem argE_parts {x : EdP} (h : argE x = false) : rowMay x.f0 = true /\ x.f2 <= 1048576 /\ -1048576 <= x.f2 := by
 unfold argE at h; rw [Bool.or_eq_false_iff, Bool.or_eq_false_iff] at h; obtain ⟨h1, h2, h3⟩ := h; exact ⟨by simpa using h1, by have := of_decide_eq_false h2; omega, by have := of_decide_eq_false h3; omega⟩
theorem norm_seven (l : List EdP) (r : List Vl) (h : ∀ e ∈ l, argE e = false) (ht : ∀ e ∈ l, timeB e.f1 = false) : (normJ (jumpsOf l r)).2 ≠ 0 -> (normJ (jumpsOf l r)).2 = 7 := by
 unfold normJ; have h1 : (jumpsOf l r).any (fun x => !fairB x.f1) = false := by
  rw [List.any_eq_false]; intro x hx; obtain ⟨e, he, rfl⟩ := List.mem_map.1 hx; have := argE_parts (h e (List.mem_filter.1 he).1); have : fairB (jmpE e).f1 = true := by
   show fairB e.f2 = true
   unfold fairB; rw [DET this.2.1, DET this.2.2]; rfl
  rw [this]; decide
 have h2 : (jumpsOf l r).any (fun x => timeB x.f0) = false := by
  rw [List.any_eq_false]; intro x hx; obtain ⟨e, he, rfl⟩ := List.mem_map.1 hx; rw [show timeB (jmpE e).f0 = false from ht e (List.mem_filter.1 he).1]; decide
 rw [if_neg (by rw [h1]; decide), if_neg (by rw [h2]; decide)]; unfold toldJ
 split <;> simp
theorem normV_ok (l : List EdP) (h : ∀ e ∈ l, argE e = false) (ht : ∀ e ∈ l, timeB e.f1 = false) : normV l = refL normJ [] (groups l) := by
 unfold normV; rw [if_neg (by rw [Bool.not_eq_true, List.any_eq_false]; intro e he; rw [h e he]; decide), if_neg (by rw [Bool.not_eq_true, List.any_eq_false]; intro e he; rw [ht e he]; decide)]; refine (refL_map normJ _ _ (fun x hx => ?_) zq30).symm; obtain ⟨r, _, rfl⟩ := List.mem_map.1 hx; exact norm_seven l r h ht
theorem rowsx_len (l : List EdP) : (rowsOf l).length <= l.length := by
 unfold rowsOf
 induction l with
 | nil => simp
 | cons e es ih =>
  rw [List.map_cons, List.foldr_cons]; have := rowIns_len e.f0 ((es.map (·.f0)).foldr rowIns []); simp only [List.length_cons]; omega
theorem normJ_len2 (f : List Jp) : (normJ f).1.length <= 1024 := by
 unfold normJ toldJ
 repeat' split
 all_goals first | exact Nat.zero_le _ | (rename_i h; exact mayJ_len h)
structure Hold2 (p : Prop) : Prop where
 out : p
theorem hold2 {p : Prop} (h : Hold2 p) : p := h.out
theorem refnorm_calls (A0 : Option Addr) (c0 : Nat) (l : List EdP) (w : World) (hr0 : Kd.C kE w A0 l.length l) (hc0 : l.length <= c0) (hl : l.length <= 1000000) :
  Calls Tryz.prog 58 #[.slice A0 l.length c0] w fun e w' => ∃ v, e = .returned (.tuple #[v, .int .i64 (normV l).2]) /\ Kd.R kE tE w' w.heap.size (fun _ => True) v (normV l).1 /\ Below w.heap.size w w' := by
 have HR := Hd hr0; have HC := Hd hc0; have HL := Hd hl; have MC := Hd (fun (r : List Vl) (A : Option Addr) (c : Nat) (w1 : World) (hC : Kd.C kV w1 A r.length r) (hc : r.length <= c) => (EvP.mayR r).get.elim fun k hk => r06_May.calls k A c r _ w1 hC hc hk); clear hr0 hc0; go_enter Tryz.func58, Tryz.ntmps58; go_wp2
 go_loopw [4] (fun v4 wr => ∃ (i : Nat), i <= l.length /\ v4 = .int .i64 (i : Int) /\ Aside0 (∀ x ∈ l.take i, argE x = false) /\ Aside0 (Below w.heap.size w wr)) (fun v4 wr => l.length - (intOf v4).toNat)
 case atStart => exact ⟨0, Nat.zero_le _, rfl, ⟨by simp⟩, ⟨Below.refl _ _⟩⟩
 case round =>
  obtain ⟨i, hi, rfl, HE, HB⟩ := hrel
  by_cases c : i < l.length
  ·obtain ⟨X, hX⟩ : ∃ X, l[i] = X := ⟨_, rfl⟩
   obtain ⟨ad, Ax, cx, e1, x0, x1, x2, x3, x4⟩ := at_T41 (Kd.C_below HR.out HB.out) (i : Int) zq4 zq4; rw [Int.toNat_natCast, rdE l i c, hX] at x0 x1 x2; rw [rdE l i c, hX] at x3 x4; cases e1; have MX := Hd (MC.out X.f0 Ax cx wr x4 x3); have HX := Hd hX; have HX2 := Hd x2; have HL1 := Hd (show l.take (i + 1) = l.take i ++ [X] by rw [List.take_add_one, List.getElem?_eq_getElem c, hX]; rfl); have HM := Hd (show X ∈ l by rw [<- hX]; exact List.getElem_mem c); clear x1 x2 x3 x4 hX
   go_wp2_with (go_at_call 69; refine hold2 ?_)
   refine ⟨?_⟩; refine MX.out.mono ?_; rintro e w1 ⟨rfl, hb1⟩; have z2 := pw_cell_below hb1 HX2.out; have HB1 := Hd (HB.out.trans (hb1.mono HB.out.size)); clear MX hb1; cases hbad : argE X with
   | true =>
    have HV := Hd (show normV l = ([], 2) by unfold normV; rw [if_pos (List.any_eq_true.2 ⟨X, HM.out, hbad⟩)]); cases hm : rowMay X.f0 with
    | false =>
     go_wp2; go_ret2; rw [HV.out]; exact ⟨_, rfl, Kd.R_nil _ _ _ _ _, HB1.out⟩
    | true =>
     unfold argE at hbad; rw [hm, Bool.not_true, Bool.false_or] at hbad
     by_cases c1 : X.f2 > 1048576
     ·have b1 : decide (X.f2 > 1048576) = true := DET c1
      go_wp2; go_ret2; rw [HV.out]; exact ⟨_, rfl, Kd.R_nil _ _ _ _ _, HB1.out⟩
     ·have b1 : decide (X.f2 > 1048576) = false := DEF c1
      rw [b1, Bool.false_or] at hbad; go_wp2; go_ret2; rw [HV.out]; exact ⟨_, rfl, Kd.R_nil _ _ _ _ _, HB1.out⟩
   | false =>
    obtain ⟨hm, h1, h2⟩ := argE_parts hbad; have b1 : decide (X.f2 > 1048576) = false := DEF zq4; have b2 : decide (X.f2 < -1048576) = false := DEF zq4; rw [hm]; go_wp2; go_roundw
    case rel =>
     refine ⟨i + 1, by omega, by go_num, ⟨fun x hx => ?_⟩, ⟨HB1.out⟩⟩; rw [HL1.out, List.mem_append] at hx
     rcases hx with hx | hx
     ·exact HE.out x hx
     ·rw [List.mem_singleton] at hx; rw [hx]; exact hbad
    case measure => simp [intOf]; omega
  ·obtain rfl : i = l.length := by omega
   have HARG := Hd (show ∀ x ∈ l, argE x = false by have := HE.out; rw [List.take_length] at this; exact this); have HBa := Hd HB.out; clear HE HB; go_wp2
   go_loopw [5] (fun v5 wr => ∃ (i : Nat), i <= l.length /\ v5 = .int .i64 (i : Int) /\ Aside0 (∀ x ∈ l.take i, timeB x.f1 = false) /\ Aside0 (Below w.heap.size w wr)) (fun v5 wr => l.length - (intOf v5).toNat)
   case atStart => exact ⟨0, Nat.zero_le _, rfl, ⟨by simp⟩, ⟨HBa.out⟩⟩
   case round =>
    obtain ⟨i, hi, rfl, HE, HB⟩ := hrel
    by_cases c : i < l.length
    ·obtain ⟨X, hX⟩ : ∃ X, l[i] = X := ⟨_, rfl⟩
     obtain ⟨ad, Ax, cx, e1, x0, x1, x2, x3, x4⟩ := at_T41 (Kd.C_below HR.out HB.out) (i : Int) zq4 zq4; rw [Int.toNat_natCast, rdE l i c, hX] at x0 x1 x2; cases e1; have HL1 := Hd (show l.take (i + 1) = l.take i ++ [X] by rw [List.take_add_one, List.getElem?_eq_getElem c, hX]; rfl); have HM := Hd (show X ∈ l by rw [<- hX]; exact List.getElem_mem c); clear x0 x2 x3 x4 hX; have HV := Hd (fun h : timeB X.f1 = true => show normV l = ([], 13) by
      unfold normV; rw [if_neg (by rw [Bool.not_eq_true, List.any_eq_false]; intro e he; rw [HARG.out e he]; decide), if_pos (List.any_eq_true.2 ⟨X, HM.out, h⟩)])
     by_cases c1 : X.f1 < -1
     ·have b1 : decide (X.f1 < -1) = true := DET c1
      have HV2 := Hd (HV.out (by unfold timeB; rw [b1]; rfl)); go_wp2; go_ret2; rw [HV2.out]; exact ⟨_, rfl, Kd.R_nil _ _ _ _ _, HB.out⟩
     ·have b1 : decide (X.f1 < -1) = false := DEF c1
      by_cases c2 : X.f1 > 1125899906842624
      ·have b2 : decide (X.f1 > 1125899906842624) = true := DET c2
       have HV2 := Hd (HV.out (by unfold timeB; rw [b1, b2]; rfl)); go_wp2; go_ret2; rw [HV2.out]; exact ⟨_, rfl, Kd.R_nil _ _ _ _ _, HB.out⟩
      ·have b2 : decide (X.f1 > 1125899906842624) = false := DEF c2
       have HT := Hd (show timeB X.f1 = false by unfold timeB; rw [b1, b2]; rfl); clear HV; go_wp2; go_roundw
       case rel =>
        refine ⟨i + 1, by omega, by go_num, ⟨fun x hx => ?_⟩, ⟨HB.out⟩⟩; rw [HL1.out, List.mem_append] at hx
        rcases hx with hx | hx
        ·exact HE.out x hx
        ·rw [List.mem_singleton] at hx; rw [hx]; exact HT.out
       case measure => simp [intOf]; omega
    ·obtain rfl : i = l.length := by omega
     have HTM := Hd (show ∀ x ∈ l, timeB x.f1 = false by have := HE.out; rw [List.take_length] at this; exact this); obtain ⟨wB, hwB⟩ : ∃ x, x = wr := ⟨_, rfl⟩
     rw [<- hwB] at HB ⊢; clear hwB HE HBa; have HBB := Hd HB.out; clear HB
     go_wp2_with (go_at_call 66; refine hold2 ?_)
     refine ⟨?_⟩; have HBC := Hd (below_alloc (Below.refl _ wB) (.cells #[] tE (0, 0))); obtain ⟨wC, hwC⟩ : ∃ x, x = wB.alloc (.cells #[] tE (0, 0)) := ⟨_, rfl⟩
     have hsC : wC.heap.size = wB.heap.size + 1 := by rw [hwC, World.size_alloc]
     have hoC : Kd.R kE tE wC wB.heap.size (fun _ => True) (.slice (some ⟨wB.heap.size, 0, none⟩) 0 0) [] := ⟨fun _ _ => trivial, [], ⟨rfl, .inr ⟨wB.heap.size, 0, #[], rfl, Nat.le_refl _, by rw [hwC]; exact blk_new wB _, Nat.le_refl _, Nat.zero_le _, rfl, rfl⟩⟩, Reps.none _ _⟩
     rw [<- hwC] at HBC ⊢; clear hwC; have HSC := Hd hsC; have HOC := Hd hoC; clear hsC hoC; refine (hrows_calls A0 c0 l w wC HR.out (HBB.out.trans (HBC.out.mono HBB.out.size)) (by have := HL.out; omega) (fun e he => (argE_parts (HARG.out e he)).1)).mono ?_; rintro e w1 ⟨vr, rfl, hN, hb1⟩; obtain ⟨Ar, cr, rfl⟩ := Kd.R_slice hN; obtain ⟨RS, hRS⟩ : ∃ z, rowsOf l = z := ⟨_, rfl⟩
     rw [hRS] at hN ⊢; have HRS := Hd hRS; have HF1 := Hd hN; have HB1 := Hd ((HBB.out.trans (HBC.out.mono HBB.out.size)).trans (hb1.mono (by have := HBB.out.size; have := HSC.out; omega))); have HOW := Hd (Kd.R_lower (Kd.R_below HOC.out hb1) HBB.out.size); have HSZ := Hd hb1.size; have HGR := Hd (show groups l = RS.map fun r => (r, jumpsOf l r) by unfold groups; rw [hRS]); have HRL := Hd (show RS.length <= 1000000 by
      have h1 := rowsx_len l; rw [hRS] at h1; have := HL.out; omega)
     have HRM := Hd (show ∀ r ∈ RS, rowMay r = true by
      intro r hr; rw [<- hRS, rowsOf_mem] at hr; obtain ⟨e, he, rfl⟩ := hr; exact (argE_parts (HARG.out e he)).1)
     clear hN hb1 hRS; go_wp2
     go_loopw [6, 8] (fun v6 v8 wr => ∃ (i : Nat) (out : List EdP) (A6 : Option Addr) (c6 : Nat), i <= RS.length /\ v8 = .int .i64 (i : Int) /\ v6 = .slice A6 out.length c6 /\ Aside0 (Kd.R kE tE wr w.heap.size (fun _ => True) (.slice A6 out.length c6) out) /\ Aside0 (Below w.heap.size w wr) /\ Aside0 (w1.heap.size <= wr.heap.size) /\
      Aside0 (∀ k, (((k < wB.heap.size \/ wC.heap.size <= k) /\ k < w1.heap.size) -> wr.heap[k]? = w1.heap[k]?)) /\ Aside0 (∀ b, (Value.slice A6 out.length c6).ownBlock = some b -> (wB.heap.size <= b /\ b < wC.heap.size) \/ w1.heap.size <= b) /\
      Aside0 (refL normJ [] (groups l) = refL normJ out ((groups l).drop i)) /\ Aside0 (out.length <= 1024 * i)) (fun v6 v8 wr => RS.length - (intOf v8).toNat)
     case atStart => exact ⟨0, [], _, _, Nat.zero_le _, rfl, rfl, ⟨HOW.out⟩, ⟨HB1.out⟩, ⟨Nat.le_refl _⟩, ⟨fun _ _ => rfl⟩, ⟨fun b hb => by injection hb with hb; have hb' : wB.heap.size = b := hb; have := HSC.out; exact .inl ⟨by omega, by omega⟩⟩, ⟨by rw [List.drop_zero]⟩, ⟨Nat.le_refl _⟩⟩
     case round =>
      clear HBB HBC HOC HOW HB1 MC; obtain ⟨i, out, A6, c6, hi, rfl, rfl, HO, HB, HSW, HKP, HOB, HEQ, HLN⟩ := hrel
      by_cases c : i < RS.length
      ·have HFr := Hd (Kd.R_step (Kd.R_tight rfl HF1.out) (fun k hk hlt => HKP.out k ⟨.inr (Kd.R_base HF1.out k hk.symm), hlt⟩))
       obtain ⟨r, hr⟩ : ∃ r, RS[i] = r := ⟨_, rfl⟩
       obtain ⟨ad, Ax, cx, hA, x0, hxl, hx0⟩ := at_H (Kd.R_reads' HFr.out).2.2 i r (by rw [List.getElem?_eq_getElem c, hr]); cases hA; have hxC := Kd.C_below hx0 HB.out; have HROW := Hd (Kd.C_F k65_heap hx0); have HXC := Hd hxC; have HXL := Hd hxl; have HX0 := Hd x0; have HRMi := Hd (HRM.out r (by rw [<- hr]; exact List.getElem_mem c)); have hgi : i < (groups l).length := by rw [HGR.out, List.length_map]; exact c
       have hgx : (groups l)[i] = (r, jumpsOf l r) := by
        have : (groups l)[i]? = some (r, jumpsOf l r) := by rw [HGR.out, List.getElem?_map, List.getElem?_eq_getElem c, hr]; rfl
        rw [List.getElem?_eq_getElem hgi] at this; exact OSI this
       have HST := Hd (show refL normJ [] (groups l) = if (normJ (jumpsOf l r)).2 ≠ 0 then ([], (normJ (jumpsOf l r)).2) else refL normJ (putP out r (normJ (jumpsOf l r)).1) ((groups l).drop (i + 1)) by
        rw [HEQ.out, refL_drop normJ out (groups l) i hgi, hgx])
       obtain ⟨kj, hkj⟩ := (jumps10 l r (fun e he => by have := may_len (argE_parts (HARG.out e he)).1; omega) (by have := HL.out; omega)).get; have JC := Hd (r10_Jumps.calls kj A0 c0 l Ax cx r (jumpsOf l r) wr (Kd.C_below HR.out HB.out) HC.out hxC hxl hkj); have pI : (0 <= (i : Int)) = True := eq_true zq4; have qI : ((i : Int) < (RS.length : Int)) = True := eq_true zq4; clear hx0 hxC hxl hkj HFr hgi hgx hr
       go_wp2_with (go_at_call 26; refine hold2 ?_)
       refine ⟨?_⟩; refine JC.out.mono ?_; rintro e w2 ⟨vj, rfl, hRj, hb2⟩; obtain ⟨Aj, cj, rfl⟩ := Kd.R_slice hRj; have NC := Hd (hnorm09_calls Aj cj (jumpsOf l r) w2 (Kd.R_reads' hRj).2.2 (Kd.R_reads' hRj).2.1 (by have := jumpsOf_len l r; have := HL.out; omega)); have HB2 := Hd hb2; clear hRj hb2 JC x0
       go_wp2_with (go_at_call 93; refine hold2 ?_)
       refine ⟨?_⟩; refine NC.out.mono ?_; rintro e w3 ⟨vf, rfl, hRf, hb3⟩; obtain ⟨Af, cf, rfl⟩ := Kd.R_slice hRf; have HB3 := Hd (HB2.out.trans (hb3.mono HB2.out.size)); have HRF := Hd hRf; have z0 := pw_cell_below HB3.out HX0.out; have HBw3 := Hd (HB.out.trans (HB3.out.mono HB.out.size)); clear NC hRf hb3 HB2; obtain ⟨fe, hfe⟩ : ∃ z, (normJ (jumpsOf l r)).2 = z := ⟨_, rfl⟩
       obtain ⟨ff, hff⟩ : ∃ z, (normJ (jumpsOf l r)).1 = z := ⟨_, rfl⟩
       have HFL := Hd (show ff.length <= 1024 by rw [<- hff]; exact normJ_len2 _); rw [hfe, hff] at HST; rw [hff] at HRF; rw [hfe, hff]
       by_cases ce : fe = 0
       ·subst ce
        have HST2 := Hd (show refL normJ [] (groups l) = refL normJ (putP out r ff) ((groups l).drop (i + 1)) by rw [HST.out, if_neg zq30]); have PC := Hd (refput_calls w.heap.size (fun _ => True) (.slice A6 out.length c6) out Ax cx r Af cf ff w3 (Kd.R_below HO.out HB3.out) HBw3.out.size (fun _ _ => trivial) (fun k => k < w.heap.size)
         (fun w4 h => HROW.out w4 (fun k hk _ => (h k hk).trans (HBw3.out.block k hk))) (fun k hk => ⟨Nat.lt_of_lt_of_le hk HBw3.out.size, fun e' => by have := Kd.R_base HO.out k e'.symm; omega⟩) (Kd.R_lower HRF.out (Nat.zero_le _)) (by have := may_len HRMi.out; omega) (by have := HLN.out; have := HFL.out; have := HRL.out; omega))
        clear HST hfe hff HROW HXC HXL HRF; have hwr := wrapN i (by have := HRL.out; omega)
        go_wp2_with (go_at_call 68; refine hold2 ?_)
        refine ⟨?_⟩; refine PC.out.mono ?_; rintro e w4 ⟨vp, rfl, hRp, hgr, hat⟩; obtain ⟨Ap, cp, rfl⟩ := Kd.R_slice hRp; have HRP := Hd hRp; have HGRW := Hd hgr; have HAT := Hd hat; clear hRp hgr hat PC; go_wp2; go_roundw
        case rel =>
         refine ⟨i + 1, putP out r ff, _, _, by omega, by rw [hwr], rfl, ⟨HRP.out⟩, ⟨?_⟩, ⟨?_⟩, ⟨?_⟩, ⟨?_⟩, ⟨HST2.out⟩, ⟨?_⟩⟩
         ·exact pw_below_grown HBw3.out _ HBw3.out.size HGRW.out (fun k hk => Kd.R_base HO.out k hk)
         ·have := HSW.out; have := HB3.out.size; have := HGRW.out.size; omega
         ·intro k hk
          have h1 := HKP.out k hk; have h2 := HB3.out.block k (by have := HSW.out; omega); have h3 := HGRW.out.block k (by have := HSW.out; have := HB3.out.size; omega) (fun e' => by have := HOB.out k e'.symm; omega); rw [h3, h2, h1]
         ·intro b hb
          rcases HAT.out with h | ⟨g, hg, hle⟩
          ·rw [h] at hb; exact HOB.out b hb
          ·rw [hg] at hb; injection hb with hb; have := HSW.out; have := HB3.out.size; exact .inr zq4
         ·have h1 := HLN.out; have h2 := HFL.out; rw [putP_len]; omega
        case measure => rw [hwr]; simp [intOf]; omega
       ·have HV := Hd (show normV l = ([], fe) by rw [normV_ok l HARG.out HTM.out, HST.out, if_pos ce])
        have b1 : (fe == 0) = false := BNM ce; have b2 : (fe != 0) = true := bne_iff_ne.mpr ce; clear HST hfe hff HROW HXC HXL HRF; go_wp2; go_ret2; rw [HV.out]; exact ⟨_, rfl, Kd.R_nil _ _ _ _ _, HBw3.out⟩
      ·obtain rfl : i = RS.length := by omega
       have HV := Hd (show normV l = if 4096 < out.length then ([], 7) else (out, 0) by
        rw [normV_ok l HARG.out HTM.out, HEQ.out, HGR.out, List.drop_eq_nil_of_le (by rw [List.length_map]; exact Nat.le_refl _), refL])
       by_cases c2 : 4096 < out.length
       ·have b1 : decide ((out.length : Int) > 4096) = true := DET zq4
        go_wp2; go_ret2; rw [HV.out, if_pos c2]; exact ⟨_, rfl, Kd.R_nil _ _ _ _ _, HB.out⟩
       ·have b1 : decide ((out.length : Int) > 4096) = false := DEF zq4
        go_wp2; go_ret2; rw [HV.out, if_neg c2]; exact ⟨_, rfl, HO.out, HB.out⟩
end Go.Proofs.YtmkgecapkeojaaaGreat.Eg
end
section
namespace Go.Proofs.YtmkgecapkeojaaaGreat.Eg
open Go.Proofs.YtmkgecapkeojaaaGreat Go.Proofs.YtmkgecapkeojaaaGreat.PDa
open Go.RowKit Go.Proofs.YtmkgecapkeojaaaGreatW.PrintWords Go.Proofs.YtmkgecapkeojaaaGreatW.PrintLast Go.Proofs.YtmkgecapkeojaaaGreatW.PrintMore
open Go.Proofs.YtmkgecapkeojaaaGreat.Stp Go.Proofs.YtmkgecapkeojaaaGreat.Rw Go.Proofs.YtmkgecapkeojaaaGreat.SortM
def chainA (l : List EdP) : Nat -> Bool
 | 0 => chain0 l
 | i + 1 => match l[i]? with
  | some p => chainB p (l.drop (i + 1))
  | none => true
theorem chainA_0 (l : List EdP) (h : 0 < l.length) : chainA l 0 = (okE l[0] && chainA l 1) := by
 cases l with
 | nil => simp at h
 | cons e es => rfl
theorem chainA_1 (l : List EdP) (i : Nat) (h : i + 1 < l.length) : chainA l (i + 1) = (okE l[i + 1] && stepB l[i] l[i + 1] && chainA l (i + 2)) := by
 simp only [chainA]; rw [List.getElem?_eq_getElem (show i < l.length by omega), List.getElem?_eq_getElem h, List.drop_eq_getElem_cons h]
 rfl
theorem chainA_end (l : List EdP) : chainA l l.length = true := by
 cases h : l.length with
 | zero => rw [List.eq_nil_of_length_eq_zero h]; rfl
 | succ n =>
  simp only [chainA]; rw [List.getElem?_eq_getElem (show n < l.length by omega), List.drop_eq_nil_of_le zq4]
  rfl
def hmy.T6 : Bool × List (List Nat × List Nat) := (true, [([], []), ([], []), ([0, 1], [0, 1]), ([2], [2]), ([3], [3]), ([4], [4]), ([5], [5]), ([6, 5], [6]), ([7], [7]), ([7], [7]), ([8, 9, 7], [7, 8, 9]), ([10, 7], [7, 10]), ([11, 7], [7, 11]), ([7], [7]), ([7], [7]), ([13, 14, 7], [7, 13, 14]), ([15, 7], [7, 15]), ([16, 7], [7, 16]), ([12, 17, 7], [7, 12, 17]), ([18, 7], [7, 18]), ([19, 7, 7], [7, 19]), ([20, 7], [7, 20]), ([7, 21], [7, 21])])
def hmy.B6 : List Nat := [0, 0, 3, 7, 15, 31, 63, 127, 255, 255, 1023, 2047, 4095, 255, 255, 24831, 57599, 123135, 262143, 524287, 1048575, 2097151, 4194303]
theorem hmy.tab6 : rtab .any (opsOf Tryz.f50 6) = hmy.T6 := by kernel_rfl
theorem hmy.bits6 : waitsOk hmy.T6.2 hmy.B6 = true := by kernel_rfl
theorem hmay_calls (A0 : Option Addr) (c0 : Nat) (l : List EdP) (w : World) (hr0 : Kd.C kE w A0 l.length l) (hc0 : l.length <= c0) (hl : l.length <= 1024) (hrow : ∀ e ∈ l, e.f0.length <= 4398046511104) :
  Calls Tryz.prog 50 #[.slice A0 l.length c0] w fun e w' => e = .returned (.bool (mayE l)) /\ Below w.heap.size w w' := by
 have HR := Hd hr0; have HC := Hd hc0; have HL := Hd hl; have HRW := Hd hrow; have HM := Hd (show mayE l = chainA l 0 from mayE_chain l hl); clear hr0 hc0 hrow; go_enter Tryz.func50, Tryz.ntmps50; have b0 : decide ((l.length : Int) > 4096) = false := DEF zq4; clear hl; go_wp2; clear b0
 go_loopw [3] (fun v3 wr => ∃ (i : Nat), i <= l.length /\ v3 = .int .i64 (i : Int) /\ Aside0 (mayE l = chainA l i) /\ Aside0 (∀ e ∈ l.take i, rowMay e.f0 = true) /\ Aside0 (Below w.heap.size w wr)) (fun v3 wr => l.length - (intOf v3).toNat)
 case atStart => exact ⟨0, Nat.zero_le _, rfl, ⟨HM.out⟩, ⟨by simp⟩, ⟨Below.refl _ _⟩⟩
 case round =>
  clear HM; obtain ⟨i, hi, rfl, HEQ, HOK, HB⟩ := hrel; have hll := HL.out
  by_cases c : i < l.length
  ·obtain ⟨X, hX⟩ : ∃ X, l[i] = X := ⟨_, rfl⟩
   obtain ⟨ad, Ax, cx, e1, x0, x1, x2, x3, x4⟩ := at_T41 (Kd.C_below HR.out HB.out) (i : Int) zq4 zq4; rw [Int.toNat_natCast, rdE l i c, hX] at x0 x1 x2; rw [rdE l i c, hX] at x3 x4; cases e1; obtain ⟨P, hP⟩ : ∃ P, (0 < i -> l[i - 1]? = some P) := by
    by_cases h0 : 0 < i
    ·exact ⟨l[i - 1], fun _ => List.getElem?_eq_getElem zq4⟩
    ·exact ⟨X, fun h => absurd h h0⟩
   have HST := Hd (show mayE l = (okE X && (decide (i = 0) || stepB P X) && chainA l (i + 1)) by
    rw [HEQ.out]; cases i with
    | zero => rw [chainA_0 l c, hX]; simp
    | succ n =>
     have h := hP zq4; rw [Nat.add_sub_cancel, List.getElem?_eq_getElem (show n < l.length by omega)] at h; injection h with h
     rw [chainA_1 l n c, hX, h]; simp)
   have HTK := Hd (show l.take (i + 1) = l.take i ++ [X] by rw [List.take_add_one, List.getElem?_eq_getElem c, hX]; rfl); obtain ⟨km, hkm⟩ := (EvP.mayR X.f0).get; have MX := Hd (fun (W : World) (h : Below wr.heap.size wr W) => r06_May.calls km Ax cx X.f0 _ W (Kd.C_below x4 h) x3 hkm); have X0 := Hd (fun (W : World) (h : Below wr.heap.size wr W) => pw_cell_below h x0); have X1 := Hd (fun (W : World) (h : Below wr.heap.size wr W) => pw_cell_below h x1); have X2 := Hd (fun (W : World) (h : Below wr.heap.size wr W) => pw_cell_below h x2); have XC := Hd x4; have XL := Hd x3; have HP := Hd hP; have pI : (0 <= (i : Int)) = True := eq_true zq4; have qI : ((i : Int) < (l.length : Int)) = True := eq_true zq4; have hrx : X.f0.length <= 4398046511104 := HRW.out X (by rw [<- hX]; exact List.getElem_mem c); clear x0 x1 x2 x3 x4 hkm hX hP; cases hm : rowMay X.f0 with
   | false =>
    have HV := Hd (show mayE l = false by rw [HST.out, show okE X = false by unfold okE; rw [hm]; rfl]; rfl); rw [hm] at MX; have x0' := fun p : BelowOf wr => X0.out p.W p.h
    go_wp2; refine wp_region_quiet_below zq17 zq17 ?_
    repeat (go_big_quiet_step (exact below_calls (MX.out _ (BelowOf.h _))))
    refine wpQuiet_nil ?_; intro wq hw1; have HBQ := Hd (show Below wr.heap.size wr wq by obtain ⟨p, rfl⟩ := hw1; exact p.h); clear hw1 x0'; go_wp2; go_ret; exact ⟨by rw [HV.out]; rfl, HB.out.trans (HBQ.out.mono HB.out.size)⟩
   | true =>
    rw [hm] at MX; have hj9 := may09_one ⟨X.f1, X.f2⟩; obtain ⟨mj, hmj⟩ : ∃ b, mayJ [(⟨X.f1, X.f2⟩ : Jp)] = b := ⟨_, rfl⟩
    rw [hmj] at hj9; have HOKE := Hd (show okE X = mj by unfold okE; rw [hm, <- hmj]; rfl); obtain ⟨k9, hk9⟩ := hj9.get; have HK9 := Hd hk9; clear hk9 hmj; obtain ⟨wA, hwA⟩ : ∃ x, x = wr := ⟨_, rfl⟩
    go_wp2; have HBB := below_drew1 (Below.refl wr.heap.size wr); have b0 := X0.out _ HBB; have b1 := X1.out _ HBB; have b2 := X2.out _ HBB; refine start_ (n := 23) (S := fun w' => Below wr.heap.size wr w' /\ w'.cell? (ad.add (i * 3)) = some (.slice Ax X.f0.length cx) /\ w'.cell? ⟨(ad.add (i * 3)).block, (ad.add (i * 3)).off + 1, none⟩ = some (.int .i64 X.f1) /\ w'.cell? ⟨(ad.add (i * 3)).block, (ad.add (i * 3)).off + 2, none⟩ = some (.int .i64 X.f2)) (ds := []) #[false, false, false, false, false, false, false, false, false, false, false, false, false, false, false, false, false, false, false, false, false, false, false] zq17 rfl rfl ⟨HBB, b0, b1, b2⟩ (fun hHeld => ?_); refine with_tabW hmy.tab6 hmy.bits6 (fun HT_ HW_ => ?_); refine pZ 0 16 ?_; refine pZ 1 17 ?_; refine pZ 2 18 ?_; refine pZ 3 19 ?_; refine tZ4 4 20 ?_; refine oZ 5 21 (fun K hK => ?_); refine goes_ Tryz.func69 zq17 rfl #[.slice Ax X.f0.length cx] (by rfl) rfl rfl zq67 ?_
    with_reducible refine (MX.out _ hHeld.1).mono ?_
    rintro e w5 ⟨rfl, hb5⟩; refine ⟨_, rfl, ?_⟩; have hb6 := hHeld.1.trans (hb5.mono hHeld.1.size); refine hK.out _ _ ⟨hb6, X0.out _ hb6, X1.out _ hb6, X2.out _ hb6⟩ (fun hHeld => ?_); clear hK K; refine nZ 21 ?_; refine pZ 6 22 ?_; refine pZ 7 23 ?_; refine pZ 8 24 ?_; refine pZ 9 25 ?_; refine pZ 10 26 ?_; refine pZ 11 27 ?_; refine pZ 13 29 ?_; refine pZ 14 30 ?_; refine pZ 15 31 ?_; refine pZ 16 32 ?_; refine tZ4 12 28 ?_; refine tZ4 17 33 ?_; refine pZ 18 34 ?_; refine oZ 19 35 (fun K hK => ?_); refine Kd.R_lit_step kJp _ tJ ?hg (N := 35) ?hd (xs := [(⟨X.f1, X.f2⟩ : Jp)]) (inner := [.int .i64 X.f1, .int .i64 X.f2]) (ok := fun _ => True) (okp := fun _ => True) ?hr ?hp (fun _ hk => hk) trivial (Below.refl _ _) (Nat.le_refl _) zq30 ?_
    case hd => rfl
    case hg => rfl
    case hr => first | (go_simp; done) | (go_simp; rfl)
    case hp => exact Reps.c2 (k85_mkM _ _ _ ⟨X.f1, X.f2⟩) (Reps.none _ _)
    intro vl w3 hRl hbl hgl hnl; obtain ⟨Al, cl, rfl⟩ := Kd.R_slice hRl; have HRL3 := Hd (Kd.R_reads' hRl); have hb7 := hHeld.1.trans (hbl.mono hHeld.1.size); clear hRl hgl hnl; refine hK.out _ _ ⟨hb7, X0.out _ hb7, X1.out _ hb7, X2.out _ hb7⟩ (fun hHeld => ?_); clear hK K; refine nZ 35 ?_; refine oZ 20 36 (fun K hK => ?_); refine goes_ Tryz.func79 zq17 rfl #[.slice Al ([⟨X.f1, X.f2⟩] : List Jp).length cl] (by rfl) rfl rfl zq67 ?_
    with_reducible refine (r09_May.calls k9 Al cl [⟨X.f1, X.f2⟩] _ _ (Kd.C_below HRL3.out.2.2 (Below.refl _ _)) HRL3.out.2.1 HK9.out).mono ?_
    rintro e w9 ⟨rfl, hb9⟩; refine ⟨_, rfl, ?_⟩; have hb8 := hHeld.1.trans (hb9.below.mono hHeld.1.size); have HBQ := Hd hb8; refine hK.out _ _ ⟨hb8, X0.out _ hb8, X1.out _ hb8, X2.out _ hb8⟩ (fun hHeld => ?_); clear hK K; refine nZ 36 ?_; refine pZ 21 37 ?_; refine pZ 22 38 ?_; refine done_ (done_of HT_.out zq17) ?_; cases mj with
    | false =>
     have HV := Hd (show mayE l = false by rw [HST.out, HOKE.out]; rfl); go_wp2; go_ret; exact ⟨by rw [HV.out]; rfl, HB.out.trans (HBQ.out.mono HB.out.size)⟩
    | true =>
     rw [HOKE.out, Bool.true_and] at HST; have HOKN := Hd (show ∀ e ∈ l.take (i + 1), rowMay e.f0 = true by
      intro e he; rw [HTK.out, List.mem_append] at he
      rcases he with he | he
      ·exact HOK.out e he
      ·rw [List.mem_singleton] at he; rw [he]; exact hm)
     have HBN := Hd (HB.out.trans (HBQ.out.mono HB.out.size)); clear HOKE HK9 MX HTK
     by_cases h0 : i = 0
     ·subst h0
      have HEN := Hd (show mayE l = chainA l (0 + 1) by rw [HST.out, DET rfl, Bool.true_or, Bool.true_and]); go_wp2; go_roundw
      case rel => exact ⟨0 + 1, by omega, by go_num, ⟨HEN.out⟩, ⟨HOKN.out⟩, ⟨HBN.out⟩⟩
      case measure => simp [intOf]; omega
     ·have bz : ((i : Int) == 0) = false := BNM zq4
      have hPP := HP.out zq4; rw [DEF h0, Bool.false_or] at HST; have hi1 : i - 1 < l.length := by omega
      have hw1 : wrap64 ((i : Int) - 1) = ((i - 1 : Nat) : Int) := by unfold wrap64; omega
      have hPg : l[i - 1] = P := by rw [List.getElem?_eq_getElem hi1] at hPP; exact OSI hPP
      obtain ⟨bd, Ay, cy, e2, y0, y1, y2, y3, y4⟩ := at_T41 (Kd.C_below HR.out HBN.out) ((i - 1 : Nat) : Int) zq4 zq4; rw [Int.toNat_natCast, rdE l (i - 1) hi1, hPg] at y0 y1 y2; rw [rdE l (i - 1) hi1, hPg] at y3 y4; cases e2; obtain ⟨kc, hkc⟩ := (ref06 P.f0 X.f0).get; obtain ⟨cc, hcc⟩ : ∃ z, cmpR P.f0 X.f0 = z := ⟨_, rfl⟩
      rw [hcc] at hkc; have HSB := Hd (show stepB P X = (decide (cc < 0) || (decide (cc = 0) && decide (P.f1 < X.f1))) by unfold stepB; rw [hcc]); have xC := Kd.C_below XC.out HBQ.out; have xl := XL.out; have CM := Hd (fun (p : BelowOf w9) => r06_Compare.calls kc Ay cy P.f0 Ax cx X.f0 _ p.W (Kd.C_below y4 p.h) y3 (Kd.C_below xC p.h) xl hkc); have x0' := fun p => BelowOf.cell (X0.out _ HBQ.out) p
      have y0' := fun p => BelowOf.cell y0 p
      have pK : (0 <= ((i - 1 : Nat) : Int)) = True := eq_true zq4; have qK : (((i - 1 : Nat) : Int) < (l.length : Int)) = True := eq_true zq4; have Y1 := Hd y1; clear y1 y2 y3 y4 hkc hcc xC xl hPg hPP HP; go_wp2; refine wp_region_quiet_below zq17 zq17 ?_
      repeat (go_big_quiet_step (exact below_calls (CM.out _)))
      refine wpQuiet_nil ?_; intro wq hw2; have HB2 := Hd (show Below w9.heap.size w9 wq by obtain ⟨p, rfl⟩ := hw2; exact p.h); have HBM := Hd (HBN.out.trans (HB2.out.mono HBN.out.size)); have z1' := fun p => BelowOf.cell (pw_cell_below HB2.out (X1.out _ HBQ.out)) p
      have z2' := fun p => BelowOf.cell (pw_cell_below HB2.out Y1.out) p
      clear hw2 x0' y0' y0 CM
      by_cases h1 : cc > 0
      ·have b1 : decide (cc > 0) = true := DET h1
       have HV := Hd (show mayE l = false by rw [HST.out, HSB.out, DEF (show ¬ cc < 0 by omega), DEF (show ¬ cc = 0 by omega)]; rfl); go_wp2; refine wp_region_quiet_below zq17 zq17 ?_
       repeat (go_big_quiet_step (fail))
       refine wpQuiet_nil ?_; intro wz hw3; have HBZ := Hd (show Below w.heap.size w wz by obtain ⟨p, rfl⟩ := hw3; exact HBM.out.trans (p.h.mono HBM.out.size)); clear hw3 z1' z2'; go_wp2; go_ret; exact ⟨by rw [HV.out]; rfl, HBZ.out⟩
      ·have b1 : decide (cc > 0) = false := DEF h1
       by_cases h2 : cc = 0
       ·have b2 : (cc == 0) = true := beq_iff_eq.mpr h2
        by_cases h3 : P.f1 >= X.f1
        ·have b3 : decide (P.f1 >= X.f1) = true := DET h3
         have HV := Hd (show mayE l = false by rw [HST.out, HSB.out, DEF (show ¬ cc < 0 by omega), DEF (show ¬ P.f1 < X.f1 by omega), Bool.and_false]; rfl); go_wp2; refine wp_region_quiet_below zq17 zq17 ?_
         repeat (go_big_quiet_step (fail))
         refine wpQuiet_nil ?_; intro wz hw3; have HBZ := Hd (show Below w.heap.size w wz by obtain ⟨p, rfl⟩ := hw3; exact HBM.out.trans (p.h.mono HBM.out.size)); clear hw3 z1' z2'; go_wp2; go_ret; exact ⟨by rw [HV.out]; rfl, HBZ.out⟩
        ·have b3 : decide (P.f1 >= X.f1) = false := DEF h3
         have HEN := Hd (show mayE l = chainA l (i + 1) by rw [HST.out, HSB.out, DET h2, DET (show P.f1 < X.f1 by omega), Bool.and_true, Bool.or_true, Bool.true_and]); go_wp2; refine wp_region_quiet_below zq17 zq17 ?_
         repeat (go_big_quiet_step (fail))
         refine wpQuiet_nil ?_; intro wz hw3; have HBZ := Hd (show Below w.heap.size w wz by obtain ⟨p, rfl⟩ := hw3; exact HBM.out.trans (p.h.mono HBM.out.size)); clear hw3 z1' z2'; go_wp2; go_roundw
         case rel => exact ⟨i + 1, by omega, by go_num, ⟨HEN.out⟩, ⟨HOKN.out⟩, ⟨HBZ.out⟩⟩
         case measure => simp [intOf]; omega
       ·have b2 : (cc == 0) = false := BNM h2
        have HEN := Hd (show mayE l = chainA l (i + 1) by rw [HST.out, HSB.out, DET (show cc < 0 by omega), Bool.true_or, Bool.true_and]); go_wp2; refine wp_region_quiet_below zq17 zq17 ?_
        repeat (go_big_quiet_step (fail))
        refine wpQuiet_nil ?_; intro wz hw3; have HBZ := Hd (show Below w.heap.size w wz by obtain ⟨p, rfl⟩ := hw3; exact HBM.out.trans (p.h.mono HBM.out.size)); clear hw3 z1' z2'; go_wp2; go_roundw
        case rel => exact ⟨i + 1, by omega, by go_num, ⟨HEN.out⟩, ⟨HOKN.out⟩, ⟨HBZ.out⟩⟩
        case measure => simp [intOf]; omega
  ·obtain rfl : i = l.length := by omega
   have HV := Hd (show mayE l = true by rw [HEQ.out, chainA_end]); have HOKL := Hd (show ∀ e ∈ l, rowMay e.f0 = true by have := HOK.out; rw [List.take_length] at this; exact this); have HBL := Hd HB.out; clear HEQ HOK HB
   go_wp2_with (go_at_call 66; refine hold3 ?_)
   refine ⟨?_⟩; refine (hrows_calls A0 c0 l w wr HR.out HBL.out zq4 HOKL.out).mono ?_; rintro e w1 ⟨v, rfl, hRr, hb1⟩; obtain ⟨Ar, cr, rfl⟩ := Kd.R_slice hRr; have HRS := Hd (Kd.R_reads' hRr).2.2; have HB1 := Hd (HBL.out.trans (hb1.mono HBL.out.size)); have HRC := Hd (kH_C HB1.out HRS.out); obtain ⟨RS, hRS⟩ : ∃ z, rowsOf l = z := ⟨_, rfl⟩
   rw [hRS] at HRC ⊢; have hrl : RS.length <= 1024 := by
    have := insR_len l; rw [insR_eq, hRS] at this; omega
   clear hRr hb1 hRS HRS; go_wp2
   go_loopw [6] (fun v6 wr => ∃ (j : Nat), j <= RS.length /\ v6 = .int .i64 (j : Int) /\ Aside0 (Below w1.heap.size w1 wr)) (fun v6 wr => RS.length - (intOf v6).toNat)
   case atStart => exact ⟨0, Nat.zero_le _, rfl, ⟨Below.refl _ _⟩⟩
   case round =>
    obtain ⟨j, hj, rfl, HBI⟩ := hrel
    by_cases cj : j < RS.length
    ·obtain ⟨r, hr⟩ : ∃ r, RS[j] = r := ⟨_, rfl⟩
     obtain ⟨a3, Ay, cy, e3, y0, y1, y2⟩ := at_L3 (Kd.C_below HRC.out HBI.out) (j : Int) zq4 zq4; rw [rdR RS j cj, hr] at y0 y1 y2; rw [Int.toNat_natCast] at y0; cases e3; obtain ⟨kj, hkj⟩ := (jumps10 l r HRW.out zq4).get; have JC := Hd (r10_Jumps.calls kj A0 c0 l Ay cy r (jumpsOf l r) wr (Kd.C_below HR.out (HB1.out.trans (HBI.out.mono HB1.out.size))) HC.out y2 y1 hkj); have bj : decide (((jumpsOf l r).length : Int) > 1024) = false := DEF (by have := jumpsOf_len l r; omega); have pJ : (0 <= (j : Int)) = True := eq_true zq4; have qJ : ((j : Int) < (RS.length : Int)) = True := eq_true zq4; clear y1 y2 hkj hr
     go_wp2_with (go_at_call 26; refine hold3 ?_)
     refine ⟨?_⟩; refine JC.out.mono ?_; rintro e w2 ⟨vj, rfl, hRj, hb2⟩; obtain ⟨Aj, cj2, rfl⟩ := Kd.R_slice hRj; have HBJ := Hd (HBI.out.trans (hb2.mono HBI.out.size)); clear hRj hb2 JC y0; go_wp2; go_roundw
     case rel => exact ⟨j + 1, by omega, by go_num, ⟨HBJ.out⟩⟩
     case measure => simp [intOf]; omega
    ·have pj : decide ((j : Int) < (RS.length : Int)) = false := DEF zq4
     go_wp2; go_ret; exact ⟨by rw [HV.out]; rfl, HB1.out.trans (HBI.out.mono HB1.out.size)⟩
end Go.Proofs.YtmkgecapkeojaaaGreat.Eg
end
section
namespace Go.Proofs.YtmkgecapkeojaaaGreat.Eg
open Go.Proofs.YtmkgecapkeojaaaGreat Go.Proofs.YtmkgecapkeojaaaGreat.PDa
open Go.RowKit Go.Proofs.YtmkgecapkeojaaaGreatW.PrintWords Go.Proofs.YtmkgecapkeojaaaGreatW.PrintLast Go.Proofs.YtmkgecapkeojaaaGreatW.PrintMore
open Go.Proofs.YtmkgecapkeojaaaGreat.SortM Go.Proofs.YtmkgecapkeojaaaGreat.Run Go.Proofs.YtmkgecapkeojaaaGreat.Stp Go.Proofs.YtmkgecapkeojaaaGreat.Rw
def joinV (a b : List Vl) : List Vl × Int := if (rowMay a && rowMay b) = true then (if 8 < a.length + b.length then ([], 6) else (a ++ b, 0)) else ([], 2)
theorem Join_calls (A0 A1 : Option Addr) (c0 c1 : Nat) (a b : List Vl) (w : World) (hr0 : Kd.C kV w A0 a.length a) (hc0 : a.length <= c0) (hr1 : Kd.C kV w A1 b.length b) (hc1 : b.length <= c1) :
  Calls Tryz.prog 98 #[.slice A0 a.length c0, .slice A1 b.length c1] w fun e w' => ∃ v, e = .returned (.tuple #[v, .int .i64 (joinV a b).2]) /\ Kd.R kV tV w' w.heap.size (fun _ => True) v (joinV a b).1 /\ Below w.heap.size w w' := by
 have hu39 : Tryz.prog.underlying 39 = some (.slice 65) := by kernel_rfl
 have MA := Hd (row_May.calls A0 c0 a (rowMay a) w hr0 hc0 rfl); have MB := Hd (fun (w1 : World) (h : Below w.heap.size w w1) => row_May.calls A1 c1 b (rowMay b) w1 (Kd.C_below hr1 h) hc1 rfl); have HR0 := Hd hr0; have HR1 := Hd hr1; clear hr0 hr1 hc0 hc1; cases hma : rowMay a with
 | false =>
  rw [hma] at MA; have HV := Hd (show joinV a b = ([], 2) by unfold joinV; rw [hma]; rfl); clear hma; go_enter Tryz.func98, Tryz.ntmps98
  go_wp2_with fail
  refine MA.out.mono ?_; rintro e w1 ⟨rfl, hb⟩; go_wp2; go_ret2; exact ⟨.slice none 0 0, by rw [HV.out]; rfl, by rw [HV.out]; exact Kd.R_nil _ _ _ _ _, hb⟩
 | true =>
 rw [hma] at MA; cases hmb : rowMay b with
 | false =>
  rw [hmb] at MB; have HV := Hd (show joinV a b = ([], 2) by unfold joinV; rw [hmb, Bool.and_false]; rfl); clear hma hmb; go_enter Tryz.func98, Tryz.ntmps98
  go_wp2_with fail
  refine MA.out.mono ?_; rintro e w1 ⟨rfl, hb⟩; have HB := Hd hb; clear hb
  go_wp2_with fail
  refine (MB.out w1 HB.out).mono ?_; rintro e w2 ⟨rfl, hb⟩; have HB2 := Hd (HB.out.trans (hb.mono HB.out.size)); clear hb; go_wp2; go_ret2; exact ⟨.slice none 0 0, by rw [HV.out]; rfl, by rw [HV.out]; exact Kd.R_nil _ _ _ _ _, HB2.out⟩
 | true =>
 rw [hmb] at MB; have la := rowMay_len hma; have lb := rowMay_len hmb
 by_cases h8 : 8 < a.length + b.length
 ·have HV := Hd (show joinV a b = ([], 6) by unfold joinV; rw [hma, hmb, if_pos h8]; rfl)
  have q : decide ((a.length : Int) + (b.length : Int) > 8) = true := DET zq4; have l1 : (a.length : Int) <= 8 := by omega
  have l2 : (b.length : Int) <= 8 := by omega
  clear hma hmb h8; go_enter Tryz.func98, Tryz.ntmps98
  go_wp2_with fail
  refine MA.out.mono ?_; rintro e w1 ⟨rfl, hb⟩; have HB := Hd hb; clear hb
  go_wp2_with fail
  refine (MB.out w1 HB.out).mono ?_; rintro e w2 ⟨rfl, hb⟩; have HB2 := Hd (HB.out.trans (hb.mono HB.out.size)); clear hb; go_wp2; go_ret2; exact ⟨.slice none 0 0, by rw [HV.out]; rfl, by rw [HV.out]; exact Kd.R_nil _ _ _ _ _, HB2.out⟩
 ·have HV := Hd (show joinV a b = (a ++ b, 0) by unfold joinV; rw [hma, hmb, if_neg h8]; rfl)
  have q : decide ((a.length : Int) + (b.length : Int) > 8) = false := DEF zq4; have l1 : (a.length : Int) <= 8 := by omega
  have l2 : (b.length : Int) <= 8 := by omega
  have HLL := Hd (show a.length <= 8 /\ b.length <= 8 from ⟨la, lb⟩); clear hma hmb h8 la lb; go_enter Tryz.func98, Tryz.ntmps98
  go_wp2_with fail
  refine MA.out.mono ?_; rintro e w1 ⟨rfl, hb⟩; have HB := Hd hb; clear hb
  go_wp2_with fail
  refine (MB.out w1 HB.out).mono ?_; rintro e w2 ⟨rfl, hb⟩; have HB2 := Hd (HB.out.trans (hb.mono HB.out.size)); have CC := Hd (copy_calls A0 c0 a w2 (Kd.C_below HR0.out HB2.out) (by have := HLL.out; omega)); clear hb
  go_wp2_with fail
  refine CC.out.mono ?_; rintro e w3 ⟨vc, rfl, hRc, hb3⟩; have HB3 := Hd (HB2.out.trans (hb3.mono HB2.out.size)); have HRC := Hd (Kd.R_lower hRc HB2.out.size); have HRB := Hd (Kd.C_below HR1.out HB3.out); clear hRc hb3 CC
  go_wp2_with (at_builtin; (refine Kd.R_append_rows kV (w0 := w) w.heap.size rfl _ _ 39 65 (.agg #[(.int .i64 0), (.int .i64 0), (.string ⟨#[]⟩)]) 32 rfl hu39 info65 rfl zq34 zq4 vc a b _ _ _ (fun _ => True) (fun _ => False) rfl rfl HRC.out HRB.out (fun _ _ h => h) (fun _ h => h.elim) (fun _ _ => trivial) HB3.out HB3.out.size ?aL ?_))
  case aL => have := HLL.out; omega
  intro v4 w4 ho hb hg hat; have HO4 := Hd ho; have HB4 := Hd hb; clear ho hb hg hat; go_wp2; go_ret2; exact ⟨v4, by rw [HV.out]; rfl, by rw [HV.out]; exact HO4.out, HB4.out⟩
def edgesJ (hh : List Vl -> Bool × Int) (x y : List Vl × List Jp) : List EdP × Int :=
 if (bothV (· * ·) x.2 y.2).2 ≠ 0 then ([], (bothV (· * ·) x.2 y.2).2) else if (bothV (· * ·) x.2 y.2).1 = [] then ([], 0) else
 if (joinV x.1 y.1).2 ≠ 0 then ([], (joinV x.1 y.1).2) else if (hh (joinV x.1 y.1).1).2 ≠ 0 then ([], (hh (joinV x.1 y.1).1).2) else if (hh (joinV x.1 y.1).1).1 = true then (buildP (joinV x.1 y.1).1 (bothV (· * ·) x.2 y.2).1, 0) else ([], 0)
theorem edges_calls (hh : List Vl -> Bool × Int) (x y : List Vl × List Jp) (Aa Ab Af Ag A1 : Option Addr) (ca cb cf cg c1 : Nat) (ex : List Op8) (w : World)
  (ha : Kd.R kV tV w 0 (fun _ => True) (.slice Aa x.1.length ca) x.1) (hb : Kd.R kV tV w 0 (fun _ => True) (.slice Ab y.1.length cb) y.1) (hf : Kd.R kJ tJ w 0 (fun _ => True) (.slice Af x.2.length cf) x.2) (hg : Kd.R kJ tJ w 0 (fun _ => True) (.slice Ag y.2.length cg) y.2)
  (hr1 : Kd.C kO w A1 ex.length ex) (hc1 : ex.length <= c1) (hhk : (joinV x.1 y.1).2 = 0 -> ∃ k, eval_Holds.f k ex (joinV x.1 y.1).1 = some (hh (joinV x.1 y.1).1)) :
  Calls Tryz.prog 64 #[.agg #[.slice Aa x.1.length ca, .slice Ab y.1.length cb, .slice Af x.2.length cf, .slice Ag y.2.length cg], .slice A1 ex.length c1] w fun e w' => ∃ v, e = .returned (.tuple #[v, .int .i64 (edgesJ hh x y).2]) /\ Kd.R kE tE w' w.heap.size (fun _ => True) v (edgesJ hh x y).1 /\ Below w.heap.size w w' := by
 have MU := Hd (fun (w1 : World) (h : Below w.heap.size w w1) => Mul_calls Af Ag cf cg x.2 y.2 w1 (Kd.R_reads' (Kd.R_below hf h)).2.2 (Kd.R_reads' hf).2.1 (Kd.R_reads' (Kd.R_below hg h)).2.2 (Kd.R_reads' hg).2.1); have JO := Hd (fun (w1 : World) (h : Below w.heap.size w w1) => Join_calls Aa Ab ca cb x.1 y.1 w1 (Kd.R_reads' (Kd.R_below ha h)).2.2 (Kd.R_reads' ha).2.1 (Kd.R_reads' (Kd.R_below hb h)).2.2 (Kd.R_reads' hb).2.1); have HX := Hd hr1; have HCX := Hd hc1; have HHK := Hd hhk; obtain ⟨o, ho⟩ : ∃ o, edgesJ hh x y = o := ⟨_, rfl⟩
 rw [ho]; unfold edgesJ at ho; obtain ⟨⟨h, eh⟩, hmu⟩ : ∃ z, bothV (· * ·) x.2 y.2 = z := ⟨_, rfl⟩
 obtain ⟨⟨bo, ej⟩, hjo⟩ : ∃ z, joinV x.1 y.1 = z := ⟨_, rfl⟩
 rw [hjo] at HHK; rw [hmu, hjo] at ho; have MU2 := Hd (fun w1 hh => by have := MU.out w1 hh; unfold BothIs at this; rw [hmu] at this; exact this); have JO2 := Hd (fun w1 hh => by have := JO.out w1 hh; rw [hjo] at this; exact this); obtain ⟨na, hna⟩ : ∃ n, x.1.length = n := ⟨_, rfl⟩
 obtain ⟨nb, hnb⟩ : ∃ n, y.1.length = n := ⟨_, rfl⟩
 obtain ⟨nf, hnf⟩ : ∃ n, x.2.length = n := ⟨_, rfl⟩
 obtain ⟨ng, hng⟩ : ∃ n, y.2.length = n := ⟨_, rfl⟩
 rw [hnf, hng] at MU2; rw [hna, hnb] at JO2; rw [hna, hnb, hnf, hng]; have HO := Hd ho; clear ha hb hf hg hr1 hc1 hhk ho hmu hjo hna hnb hnf hng MU JO; go_enter Tryz.func64, Tryz.ntmps64; obtain ⟨w1, hw1⟩ : ∃ w1, w.alloc (.cells #[.slice Aa na ca, .slice Ab nb cb, .slice Af nf cf, .slice Ag ng cg] 90 (0, 0)) = w1 := ⟨_, rfl⟩
 have HB1 := Hd (show Below w.heap.size w w1 by rw [<- hw1]; exact below_alloc (Below.refl _ _) _); have bx := blk_new w (.cells #[.slice Aa na ca, .slice Ab nb cb, .slice Af nf cf, .slice Ag ng cg] 90 (0, 0)); rw [hw1] at bx; have y0 : w1.cell? ⟨w.heap.size, 0, none⟩ = some (.slice Aa na ca) := (blk_cell bx 0).trans rfl; have y1 : w1.cell? ⟨w.heap.size, 1, none⟩ = some (.slice Ab nb cb) := (blk_cell bx 1).trans rfl; have y2 : w1.cell? ⟨w.heap.size, 2, none⟩ = some (.slice Af nf cf) := (blk_cell bx 2).trans rfl; have y3 : w1.cell? ⟨w.heap.size, 3, none⟩ = some (.slice Ag ng cg) := (blk_cell bx 3).trans rfl; have HW1 := Hd hw1; clear bx hw1
 go_wp2_with fail
 rw [HW1.out]; refine (MU2.out w1 HB1.out).mono ?_; rintro e w2 ⟨vh, rfl, hRh, hb2⟩; obtain ⟨Ah, ch, rfl⟩ := Kd.R_slice hRh; have HB2 := Hd (HB1.out.trans (hb2.mono HB1.out.size)); have z0 := pw_cell_below hb2 y0; have z1 := pw_cell_below hb2 y1; have HRH := Hd hRh; clear y0 y1 y2 y3 hb2 hRh MU2 HW1; simp only at HRH ⊢
 by_cases e1 : eh = 0
 case neg =>
  have q1 : (eh != 0) = true := by simpa using e1
  have HO2 := Hd (show o = ([], eh) by rw [<- HO.out]; rw [if_pos e1]); clear e1; go_wp2; go_ret2; exact ⟨.slice none 0 0, by rw [HO2.out]; rfl, by rw [HO2.out]; exact Kd.R_nil _ _ _ _ _, HB2.out⟩
 case pos =>
 subst e1; obtain ⟨nh, hnh⟩ : ∃ n, h.length = n := ⟨_, rfl⟩
 rw [hnh] at HRH ⊢
 by_cases e2 : nh = 0
 ·have q2 : ((nh : Int) == 0) = true := by simpa using e2
  have hn : h = [] := List.eq_nil_of_length_eq_zero zq4; have HO2 := Hd (show o = ([], 0) by rw [<- HO.out]; rw [if_neg zq30, if_pos hn]); clear e2 hn hnh; go_wp2; go_ret2; exact ⟨.slice none 0 0, by rw [HO2.out]; rfl, by rw [HO2.out]; exact Kd.R_nil _ _ _ _ _, HB2.out⟩
 have q2 : ((nh : Int) == 0) = false := by simpa using e2
 have hn : ¬ h = [] := fun e => e2 (by rw [<- hnh, e]; rfl)
 have HO1 := Hd (show (if ej ≠ 0 then ([], ej) else if (hh bo).2 ≠ 0 then ([], (hh bo).2) else if (hh bo).1 = true then (buildP bo h, 0) else ([], 0)) = o by have h9 := HO.out; rw [if_neg zq30, if_neg hn] at h9; exact h9); have HNH := Hd hnh; clear e2 hn HO hnh
 go_wp2_with fail
 refine (JO2.out w2 HB2.out).mono ?_; rintro e w3 ⟨vb, rfl, hRb, hb3⟩; obtain ⟨Ab2, cb2, rfl⟩ := Kd.R_slice hRb; have HB3 := Hd (HB2.out.trans (hb3.mono HB2.out.size)); have HRB := Hd hRb; have HRH3 := Hd (Kd.R_below HRH.out hb3); clear hRb hb3 z0 z1 HRH JO2; simp only at HRB ⊢
 by_cases e3 : ej = 0
 case neg =>
  have q3 : (ej != 0) = true := by simpa using e3
  have HO2 := Hd (show o = ([], ej) by rw [<- HO1.out, if_pos e3]); clear e3; go_wp2; go_ret2; exact ⟨.slice none 0 0, by rw [HO2.out]; rfl, by rw [HO2.out]; exact Kd.R_nil _ _ _ _ _, HB3.out⟩
 case pos =>
 subst e3; have HEV := Hd ((HHK.out rfl).elim fun k hk => eval_Holds.calls k A1 c1 ex Ab2 cb2 bo _ _ w3 (Kd.C_below HX.out HB3.out) HCX.out (Kd.R_reads' HRB.out).2.2 (Kd.R_reads' HRB.out).2.1 hk); have HBU := Hd (fun (w4 : World) (h4 : Below w3.heap.size w3 w4) => Build_calls Ab2 cb2 bo Ah ch h w4 (Kd.R_below (Kd.R_lower HRB.out (Nat.zero_le _)) h4) (by rw [HNH.out]; exact Kd.R_below (Kd.R_lower HRH3.out (Nat.zero_le _)) h4)); obtain ⟨⟨hb, he⟩, hhb⟩ : ∃ z, hh bo = z := ⟨_, rfl⟩
 rw [hhb] at HEV HO1; rw [HNH.out] at HBU; obtain ⟨nb2, hnb2⟩ : ∃ n, bo.length = n := ⟨_, rfl⟩
 rw [hnb2] at HEV HBU ⊢; clear hhb hnb2 HHK HRB HRH3; simp only at HEV HO1
 go_wp2_with fail
 refine HEV.out.mono ?_; rintro e w4 ⟨rfl, hb4⟩; have HD4 := Hd hb4; have HB4 := Hd (HB3.out.trans (hb4.mono HB3.out.size)); clear hb4 HEV
 by_cases e4 : he = 0
 case neg =>
  have q4 : (he != 0) = true := by simpa using e4
  have HO2 := Hd (show o = ([], he) by rw [<- HO1.out, if_neg zq30, if_pos e4]); clear e4; go_wp2; go_ret2; exact ⟨.slice none 0 0, by rw [HO2.out]; rfl, by rw [HO2.out]; exact Kd.R_nil _ _ _ _ _, HB4.out⟩
 case pos =>
 subst e4; cases hb with
 | false =>
  have HO2 := Hd (show o = ([], 0) by rw [<- HO1.out, if_neg zq30, if_neg zq30, if_neg zq30]); go_wp2; go_ret2; exact ⟨.slice none 0 0, by rw [HO2.out]; rfl, by rw [HO2.out]; exact Kd.R_nil _ _ _ _ _, HB4.out⟩
 | true =>
  have HO2 := Hd (show o = (buildP bo h, 0) by rw [<- HO1.out, if_neg zq30, if_neg zq30, if_pos rfl])
  go_wp2_with fail
  refine (HBU.out w4 HD4.out).mono ?_; rintro e w5 ⟨v5, rfl, hR5, hb5⟩; have HB5 := Hd (HB4.out.trans (hb5.mono HB4.out.size)); have HR5 := Hd (Kd.R_lower hR5 HB4.out.size); clear hR5 hb5; go_wp2; go_ret2; exact ⟨v5, by rw [HO2.out]; rfl, by rw [HO2.out]; exact HR5.out, HB5.out⟩
end Go.Proofs.YtmkgecapkeojaaaGreat.Eg
end
section
namespace Go.Proofs.YtmkgecapkeojaaaGreat.Run
open Go Go.RowKit
section
variable {F : Fence} {n : Nat} {P : Program} {β : Type}
theorem IterOnB.inRound {gf : Nat} {lb : Array Value} {items : List β} {Φ : β -> Array Value -> Nat -> World -> Prop} {R : Nat -> Prop} {w0 : World} (l : Nat) (h : IterOnB F n P gf lb items Φ R w0) : IterOnB (F.inRound l) n P gf lb items Φ R w0 := h
theorem range_inner {g : Operand} {ps : Array Tmp} {assign body : Code} {Q : Exit -> Act -> World -> Prop} {a : Act} {w : World} {l0 : Nat} {r0 : Loop}
  (hro : F.round = some l0) (hl0 : w.heap[l0]? = some (.loop r0)) (h1 : 1 <= n) {gf : Nat} {lb : Array Value} (hg : a.eval g = .func (.func gf) #[] lb) (hFg : F.fn gf) (eg : ∀ args w, (callFunc gf args).run P w = .ok (.enter gf args) w)
  {items : List β} {Φ : β -> Array Value -> Nat -> World -> Prop} {R : Nat -> Prop} {w0 : World} (hseq : IterOnB F (n - 1) P gf lb items Φ R w0) (hw0 : Keeps R w0 w) (hps : ∀ x args z W, Φ x args z W -> args.size = ps.size)
  (I : Nat -> (Nat -> Prop) -> World -> Prop) (Ix : Code -> (Nat -> Prop) -> World -> Prop) (Ax : β -> Array Value -> Nat -> Act -> World -> Prop)
  (hI : ∀ k S, Grow w.heap.size (I k S)) (hIx : ∀ c S, Grow w.heap.size (Ix c S)) (hΦ : ∀ x args z, Grow w.heap.size (Φ x args z)) (hAx : ∀ x args n a', Grow w.heap.size (Ax x args n a'))
  (S0 : Nat -> Prop) (hS0 : ∀ b, S0 b -> ¬ R b /\ b < w.heap.size) (h0 : I 0 S0 w)
  (hassign : ∀ (l k : Nat) (S : Nat -> Prop) (x : β) (args : Array Value) (z : Nat) (W : World) (K : Act -> World -> Prop), items[k]? = some x -> I k S W -> Φ x args z W -> (∀ a' W', Below W.heap.size W W' -> Ax x args W.heap.size a' W' -> K a' W') ->
   assign.wpIn (F.inRound l) (n - 1 - 1) P (Exit.then K (fun _ _ _ => False)) { tmps := (ps.zip args).foldl (fun t (p, v) => t.setIfInBounds p v) a.tmps, defers := [] } W)
  (hbody : ∀ (l k : Nat) (S : Nat -> Prop) (x : β) (args : Array Value) (z n0 : Nat) (a' : Act) (W : World), w.heap.size <= l -> (∃ r, W.heap[l]? = some (.loop r)) -> items[k]? = some x -> (∀ b, S b -> b < z) -> z <= n0 -> n0 <= W.heap.size -> ¬ S l -> Keeps R w0 W -> I k S W -> Φ x args z W -> Ax x args n0 a' W ->
   body.wpIn (F.inRound l) (n - 1 - 1) P (roundEnd I Ix S k W) a' W)
  (hdone : ∀ (S : Nat -> Prop) (W : World), Step S0 S w W -> (∀ b, S b -> b < W.heap.size) -> I items.length S W -> Q .normal a W)
  (hstop : ∀ (c : Code) (S : Nat -> Prop) (W : World), Step S0 S w W -> (∀ b, S b -> b < W.heap.size) -> Ix c S W -> c.wpIn F n P Q a W) :
  (Code.rangeFunc g ps assign body).wpIn F n P Q a w := by
 refine wpIn_rangeFunc fun fn hfn => ?_
 rw [hro]; obtain ⟨rec, hrec⟩ : ∃ rec : LoopState -> Option Code -> Loop, rec = fun st pe => { state := st, pending := pe, fn, tmps := a.tmps, params := ps, assign, body, defers := r0.defers } := ⟨_, rfl⟩
 obtain ⟨W1, hW1⟩ : ∃ W1, w.alloc (.loop (rec .ready none)) = W1 := ⟨_, rfl⟩
 have hsz : W1.heap.size = w.heap.size + 1 := by rw [<- hW1]; simp
 have hL1 : W1.heap[w.heap.size]? = some (.loop (rec .ready none)) := by
  rw [<- hW1]; exact World.alloc_heap_new w _
 have hI1 : I 0 S0 W1 := by rw [<- hW1]; exact (hI 0 S0).alloc _ h0
 have hb1 : Below w.heap.size w W1 := by rw [<- hW1]; exact (Below.refl _ w).alloc (Nat.le_refl _) _
 have hT1 : Keeps R w0 W1 := hw0.trans (Keeps.of_below hb1 fun b hb => Nat.lt_of_lt_of_le (hseq.1 b hb) hw0.size); have hRw : ∀ b, R b -> b < w.heap.size := fun b hb => Nat.lt_of_lt_of_le (hseq.1 b hb) hw0.size
 refine ⟨w.heap.size, [], W1, { target := .fn (.func gf) lb, args := #[.func (.yield w.heap.size) #[] #[]] }, W1, gf,
  #[.func (.yield w.heap.size) #[] #[]] ++ lb, W1, ?_, ?_, ?_, ?_, fun _ => h1, ?_⟩
 ·rw [<- hW1, hrec]; exact run_enterLoop_inner hl0 _ _ _ _ _
 ·simp only [resolve, hg]
  simp [go_sem]
 ·intro f' hf'; simp [Target.leads] at hf'; subst hf'; exact hFg
 ·simp [invoke, go_sem, eg]
 have hcall := hseq.2 w.heap.size
  (fun k S W => ∃ S', S = (fun b => S' b \/ b = w.heap.size) /\ (¬ S' w.heap.size /\ Step S0 S' w W /\ ∀ b, S' b -> b < W.heap.size) /\ I k S' W /\ W.heap[w.heap.size]? = some (.loop (rec .ready none)))
  (fun S W => ∃ S' c, S = (fun b => S' b \/ b = w.heap.size) /\ (¬ S' w.heap.size /\ Step S0 S' w W /\ ∀ b, S' b -> b < W.heap.size) /\ Ix c S' W /\ W.heap[w.heap.size]? = some (.loop (rec .done (some c))))
  (fun b => S0 b \/ b = w.heap.size) W1 hT1
  (fun b hb => by
   rcases hb with hb | rfl
   ·exact ⟨(hS0 b hb).1, by have := (hS0 b hb).2; omega⟩
   ·exact ⟨fun h => by have := hRw _ h; omega, by omega⟩)
  (fun k S => Grow.ex fun S' => by
   refine ⟨?_, ?_⟩
   ·rintro W W' ⟨e, ⟨n1, n2, n3⟩, hi, hl⟩ hb
    exact ⟨e, ⟨n1, n2.trans (Step.of_below hb), fun b hb' => Nat.lt_of_lt_of_le (n3 b hb') hb.size⟩, (hI k S').below hi hb, loop_below hb hl⟩
   ·rintro W l' o o' ⟨e, ⟨n1, n2, n3⟩, hi, hl⟩ hle ho hc
    refine ⟨e, ⟨n1, ?_, fun b hb' => by rw [World.putObj_size]; exact n3 b hb'⟩, (hI k S').put o' hi (by omega) ho hc, (World.putObj_heap_other (by omega)).trans hl⟩; exact ⟨n2.os, n2.tape, n2.output, by rw [World.putObj_size]; exact n2.size, fun b hb hS => (World.putObj_heap_other (by omega)).trans (n2.keep b hb hS), n2.sub⟩)
  (fun S => Grow.ex fun S' => Grow.ex fun c => by
   refine ⟨?_, ?_⟩
   ·rintro W W' ⟨e, ⟨n1, n2, n3⟩, hi, hl⟩ hb
    exact ⟨e, ⟨n1, n2.trans (Step.of_below hb), fun b hb' => Nat.lt_of_lt_of_le (n3 b hb') hb.size⟩, (hIx c S').below hi hb, loop_below hb hl⟩
   ·rintro W l' o o' ⟨e, ⟨n1, n2, n3⟩, hi, hl⟩ hle ho hc
    refine ⟨e, ⟨n1, ?_, fun b hb' => by rw [World.putObj_size]; exact n3 b hb'⟩, (hIx c S').put o' hi (by omega) ho hc, (World.putObj_heap_other (by omega)).trans hl⟩; exact ⟨n2.os, n2.tape, n2.output, by rw [World.putObj_size]; exact n2.size, fun b hb hS => (World.putObj_heap_other (by omega)).trans (n2.keep b hb hS), n2.sub⟩)
  (by
   rintro k x args z S1 W hx ⟨S', rfl, ⟨n1, n2, n3⟩, hi, hl⟩ hz hzW hst hphi; have hkr : Keeps R w0 W := hT1.trans (hst.keeps fun b hb => ⟨by have := hRw b hb; omega, by
    rintro (h | h)
    ·exact (hS0 b h).1 hb
    ·have := hRw b hb; omega⟩)
   refine (yield_round (B := w.heap.size) (rec := rec) ⟨r0.defers, hrec⟩ hfn (Nat.le_refl _) hI hIx (fun args => hΦ x args z) (hAx x) k S' args (hps x args z W hphi) W hl n1 n3 hi hphi
    (fun K hK => hassign _ k S' x args z W K hx hi hphi hK)
    (fun a' W2 hr h12 hi2 hphi2 hax => hbody _ k S' x args z _ a' W2 (Nat.le_refl _) hr hx (fun b hb => hz b (.inl hb)) hzW h12.size n1
     (hkr.trans (h12.keeps fun b hb => ⟨by have := hRw b hb; have := n2.size; omega, fun e => by have := hRw b hb; omega⟩)) hi2 hphi2 hax)).mono ?_
   rintro e W' (⟨rfl, S'', hs, hsb', hn, hi', hl'⟩ | ⟨rfl, c, S'', hs, hsb', hn, hi', hl'⟩)
   ·have hl1' : w.heap.size < W'.heap.size := (Array.getElem?_eq_some_iff.1 hl').1
    refine .inl ⟨rfl, _, hs, ?_, S'', rfl, ⟨hn, ?_, hsb'⟩, hi', hl'⟩
    ·rintro b (h | rfl)
     ·exact hsb' b h
     ·exact hl1'
    ·have hst2 : Step S0 (fun b => S'' b \/ b = w.heap.size) w W' := Step.drop (T := fun b => b = w.heap.size) ((n2.wide _).trans hs) (fun b e => by omega)
     exact hst2.narrow fun b hb => .inl hb
   ·have hl1' : w.heap.size < W'.heap.size := (Array.getElem?_eq_some_iff.1 hl').1
    refine .inr ⟨rfl, _, hs, ?_, S'', c, rfl, ⟨hn, ?_, hsb'⟩, hi', hl'⟩
    ·rintro b (h | rfl)
     ·exact hsb' b h
     ·exact hl1'
    ·have hst2 : Step S0 (fun b => S'' b \/ b = w.heap.size) w W' := Step.drop (T := fun b => b = w.heap.size) ((n2.wide _).trans hs) (fun b e => by omega)
     exact hst2.narrow fun b hb => .inl hb)
  ⟨S0, rfl, ⟨fun h => by have := (hS0 _ h).2; omega, Step.of_below hb1, fun b hb => by have := (hS0 b hb).2; omega⟩, hI1, hL1⟩
 have stp : ∀ {S' : Nat -> Prop} {W2 : World} (o' : Obj), Step S0 S' w W2 -> Step S0 S' w (W2.putObj w.heap.size o') := fun o' n2 =>
  ⟨n2.os, n2.tape, n2.output, by rw [World.putObj_size]; exact n2.size, fun b hb hS => (World.putObj_heap_other (by omega)).trans (n2.keep b hb hS), n2.sub⟩
 refine hcall.mono ?_; rintro e W2 ⟨⟨v, rfl⟩, S2, hs2, hsb2, (⟨S', rfl, ⟨n1, n2, n3⟩, hi, hl⟩ | ⟨S', c, rfl, ⟨n1, n2, n3⟩, hi, hl⟩)⟩
 ·refine ⟨none, _, by have := run_endLoop (P := P) hl (by rw [hrec]; simp); rw [hrec] at this; exact this, ?_⟩
  exact hdone S' _ (stp _ n2) (fun b hb => by rw [World.putObj_size]; exact n3 b hb) ((hI _ _).put _ hi (Nat.le_refl _) hl rfl)
 ·refine ⟨some c, _, by have := run_endLoop (P := P) hl (by rw [hrec]; simp); rw [hrec] at this; exact this, ?_⟩
  exact hstop c S' _ (stp _ n2) (fun b hb => by rw [World.putObj_size]; exact n3 b hb) ((hIx _ _).put _ hi (Nat.le_refl _) hl rfl)
end
end Go.Proofs.YtmkgecapkeojaaaGreat.Run
end
section
namespace Go.Proofs.YtmkgecapkeojaaaGreat.Eg
open Go.Proofs.YtmkgecapkeojaaaGreat Go.Proofs.YtmkgecapkeojaaaGreat.PDa
open Go.RowKit Go.Proofs.YtmkgecapkeojaaaGreatW.PrintWords Go.Proofs.YtmkgecapkeojaaaGreatW.PrintLast Go.Proofs.YtmkgecapkeojaaaGreatW.PrintMore
open Go.Proofs.YtmkgecapkeojaaaGreat.SortM Go.Proofs.YtmkgecapkeojaaaGreat.Run Go.Proofs.YtmkgecapkeojaaaGreat.Stp Go.Proofs.YtmkgecapkeojaaaGreat.Rw
attribute [local go_sem] Oper.semAt_some
abbrev Gr := List Vl × List Jp
def pairsL (a b : List Gr) : List (Gr × Gr) := a.flatMap fun x => b.map fun y => (x, y)
theorem pairsL_len (a b : List Gr) : (pairsL a b).length = a.length * b.length := by
 induction a with
 | nil => simp [pairsL]
 | cons x xs ih =>
  have e : pairsL (x :: xs) b = (b.map fun y => (x, y)) ++ pairsL xs b := by simp [pairsL]
  rw [e, List.length_append, List.length_map, ih, List.length_cons, Nat.succ_mul]; omega
theorem pairsL_get (b : List Gr) : ∀ (a : List Gr) (i j : Nat) (x y : Gr), a[i]? = some x -> b[j]? = some y -> (pairsL a b)[i * b.length + j]? = some (x, y)
 | [], i, j, x, y, h, _ => by simp at h
 | z :: zs, i, j, x, y, h, hy => by
  have e : pairsL (z :: zs) b = (b.map fun y => (z, y)) ++ pairsL zs b := by simp [pairsL]
  have hj : j < b.length := (List.getElem?_eq_some_iff.1 hy).1; rw [e]; cases i with
  | zero =>
   rw [Nat.zero_mul, Nat.zero_add, List.getElem?_append_left (by rw [List.length_map]; exact hj), List.getElem?_map, hy]; simp at h; rw [h]; rfl
  | succ i =>
   rw [Nat.succ_mul, List.getElem?_append_right (by rw [List.length_map]; omega), List.length_map, show i * b.length + b.length + j - b.length = i * b.length + j by omega]; exact pairsL_get b zs i j x y (by simpa using h) hy
def PhiPair (x : Gr × Gr) (args : Array Value) (W : World) : Prop := ∃ Aa ca Ab cb Af cf Ag cg, args = #[.agg #[.slice Aa x.1.1.length ca, .slice Ab x.2.1.length cb, .slice Af x.1.2.length cf, .slice Ag x.2.2.length cg]] /\
 (Kd.R kV tV W 0 (fun _ => True) (.slice Aa x.1.1.length ca) x.1.1 /\ Kd.R kV tV W 0 (fun _ => True) (.slice Ab x.2.1.length cb) x.2.1) /\ Kd.R kJ tJ W 0 (fun _ => True) (.slice Af x.1.2.length cf) x.1.2 /\ Kd.R kJ tJ W 0 (fun _ => True) (.slice Ag x.2.2.length cg) x.2.2
theorem R_step {α : Type} {d : Kd α} {e base : Nat} {ok : Nat -> Prop} {v : Value} {xs : List α} {S S' : Nat -> Prop} {W W' : World} (h : d.R e W base ok v xs) (hs : Step S S' W W') (hS : ∀ b, S b -> b < base) : d.R e W' base ok v xs :=
 Kd.R_mono (Kd.R_move (Kd.R_bound h) fun k hk => hs.keep k hk.2.2.1 (fun hsk => by have := hS k hsk; have := hk.2.1; omega)) (fun _ hk => hk.1)
theorem pairs1_iter (n : Nat) (hn : 20 <= n) (A0 A1 : Option Addr) (c0 c1 : Nat) (l r : List EdP) (cp cq : Nat) (R : Nat -> Prop) (wE w0 : World)
  (hr0 : Kd.C kE wE A0 l.length l) (hr1 : Kd.C kE wE A1 r.length r) (hE : Below wE.heap.size wE w0) (hcp : w0.cell? ⟨cp, 0, none⟩ = some (.slice A0 l.length c0)) (hcq : w0.cell? ⟨cq, 0, none⟩ = some (.slice A1 r.length c1))
  (hR0 : ∀ b, b < wE.heap.size -> R b) (hRp : R cp) (hRq : R cq) (hRw : ∀ b, R b -> b < w0.heap.size) (hm0 : mayE l = true) (hm1 : mayE r = true) (hw0 : ∀ e ∈ l, e.f0.length <= 4398046511104) (hw1 : ∀ e ∈ r, e.f0.length <= 4398046511104) :
  IterOn Fence.wide n Tryz.prog 96 #[.pointer (some ⟨cp, 0, none⟩), .pointer (some ⟨cq, 0, none⟩)] (pairsL (runsP l) (runsP r)) PhiPair R w0 := by
 refine ⟨hRw, fun l' J Jx S W hW hS hJ hJx hY h0 => ?_⟩; have hEW : Below wE.heap.size wE W := hE.trans (hW.below hR0); have HY := Hd hY; have HJ := Hd hJ; have HJX := Hd hJx; have HS := Hd hS; have HR := Hd hr0; have HRR := Hd hr1; have HRW := Hd hw0; have HRV := Hd hw1; have HM0 := Hd hm0; have HM1 := Hd hm1; have HEW := Hd hEW; have H0 := Hd h0; have HR0 := Hd hR0; have cpW := (hW.cell (p := ⟨cp, 0, none⟩) hRp).trans hcp; have CQW := Hd ((hW.cell (p := ⟨cq, 0, none⟩) hRq).trans hcq); have HRq := Hd (show R cq /\ cq < W.heap.size from ⟨hRq, Nat.lt_of_lt_of_le (hRw cq hRq) hW.size⟩); have GC := Hd (Groups_calls A0 c0 l.length); have GD := Hd (Groups_calls A1 c1 r.length); clear hcp hcq hr0 hr1 hY hJ hJx hS hE hR0 hRp hRq hRw hw0 hw1 hm0 hm1 hEW h0; refine callsIn_of_wp_marks Tryz.func96 rfl trivial ?_ rfl; simp only [Tryz.ntmps96, List.size_toArray, List.length_cons, List.length_nil, Nat.reduceAdd, Nat.reduceSub, Array.replicate_succ, Array.replicate_zero, List.push_toArray, List.append_toArray, List.nil_append, List.cons_append]; have HBA := Hd (below_alloc (Below.refl _ W) (.cells #[.func (.yield l') #[] #[]] 123 (0, 0))); have BX := Hd (show Boxed (W.alloc (.cells #[.func (.yield l') #[] #[]] 123 (0, 0))) W.heap.size 123 (.func (.yield l') #[] #[]) from blk_new W _); have cpA := pw_cell_below HBA.out cpW; gi_wp2; refine wpIn_wide.2 (wp_scope_straight ((wpIn_wide (n := n)).1 ?_)); apply wpIn_seq_k; intro K hK; apply wpIn_label; refine hK _ _ ?_; clear hK K
 gi_wp2_with (refine ⟨trivial, fun _ => ?hn, ?_⟩; (case hn => omega); (with_reducible refine (callsIn_wide.2 (GC.out _)).mono ?_); rintro e w1 ⟨rfl, rfl⟩)
 obtain ⟨w2, hw2⟩ : ∃ w2, W.alloc (.cells #[.func (.yield l') #[] #[]] 123 (0, 0)) = w2 := ⟨_, rfl⟩
 rw [hw2] at HBA BX ⊢; have hit := groups_iterB (n - 1) zq4 A0 c0 l wE w2 HR.out (HEW.out.trans (HBA.out.mono HEW.out.size)) HM0.out HRW.out; obtain ⟨w3, hw3⟩ : ∃ w3, w2.alloc (.cells #[.slice A0 l.length c0] 22 (0, 0)) = w3 := ⟨_, rfl⟩
 have HS3 := Hd (show w3.heap.size = w2.heap.size + 1 by rw [<- hw3, World.size_alloc]); have HS2 := Hd (show w2.heap.size = W.heap.size + 1 by rw [<- hw2, World.size_alloc]); have HB3 := Hd (show Below W.heap.size W w3 by rw [<- hw3]; exact below_alloc HBA.out _); have BX3 := Hd (show Boxed w3 W.heap.size 123 (.func (.yield l') #[] #[]) by rw [<- hw3]; exact BX.out.alloc _); rw [HS2.out] at hit; rw [hw3] at hit ⊢; have HIT := Hd hit; have HWE := Hd (show wE.heap.size <= W.heap.size from HEW.out.size); obtain ⟨i1, hi1⟩ : ∃ z, runsP l = z := ⟨_, rfl⟩
 obtain ⟨i2, hi2⟩ : ∃ z, runsP r = z := ⟨_, rfl⟩
 rw [hi1] at HIT HY; rw [hi2] at HY; have HI1 := Hd hi1; have HI2 := Hd hi2; obtain ⟨m, hm⟩ : ∃ m, i2.length = m := ⟨_, rfl⟩
 have HMM := Hd hm; have HJL := Hd (show (pairsL i1 i2).length = i1.length * m by rw [pairsL_len, hm]); clear hw2 hw3 hit cpW cpA hi1 hi2 hm; have hS0 : ∀ b, S b -> ¬ (b < wE.heap.size \/ b = W.heap.size + 1) /\ b < w3.heap.size := by
  intro b hb; have h1 := HS.out b hb; have h2 := HS3.out; have h3 := HS2.out; refine ⟨fun h => ?_, by omega⟩
  rcases h with h | h
  ·exact h1.1 (HR0.out b h)
  ·omega
 have hJ3 := (HJ.out 0 S).below H0.out HB3.out; refine range_outerB (F := Fence.wide) rfl zq4 (gf := 84) (lb := #[.pointer (some ⟨W.heap.size + 1, 0, none⟩)]) rfl trivial (enters_of Tryz.func84 zq17 rfl) HIT.out (Keeps.refl _ _) (fun x args z W h => by obtain ⟨_, _, _, _, rfl, _⟩ := h; rfl)
  (fun k S1 W1 => J (k * m) S1 W1 /\ Step S S1 w3 W1)
  (fun c S1 W1 => c = .exit 0 /\ Jx S1 W1 /\ Step S S1 w3 W1)
  (fun x args n0 a' W1 => ∃ Ar cr Aj cj Br Bj, args = #[.slice Ar x.1.length cr, .slice Aj x.2.length cj] /\ (n0 <= Br /\ n0 <= Bj /\ w3.heap.size <= n0) /\ a' = { tmps := #[.func (.yield l') #[] #[], .pointer (some ⟨cp, 0, none⟩), .pointer (some ⟨cq, 0, none⟩), .pointer (some ⟨W.heap.size, 0, none⟩), .pointer (some ⟨Br, 0, none⟩), .pointer (some ⟨Bj, 0, none⟩), undef, undef, .slice A0 l.length c0, .func (.func 84) #[] #[.pointer (some ⟨W.heap.size + 1, 0, none⟩)], .slice Ar x.1.length cr, .slice Aj x.2.length cj, undef, undef, undef, undef, undef, undef, undef, undef, undef, undef, undef, undef], defers := [] } /\
   Boxed W1 Br 39 (.slice Ar x.1.length cr) /\ Boxed W1 Bj 43 (.slice Aj x.2.length cj))
  (fun k S1 => ((HJ.out _ S1).mono HB3.out.size).and (Grow.step (Nat.le_refl _)))
  (fun c S1 => (Grow.const _ _).and (((HJX.out S1).mono HB3.out.size).and (Grow.step (Nat.le_refl _)))) (fun x args z => Grow.phiB _ _ _ _)
  (fun x args n0 a' => Grow.ex fun _ => Grow.ex fun _ => Grow.ex fun _ => Grow.ex fun _ => Grow.ex fun _ => Grow.ex fun _ => (Grow.const _ _).and ((Grow.const _ _).and ((Grow.const _ _).and ((Grow.boxed _ _ _ _).and (Grow.boxed _ _ _ _)))))
  S hS0 ⟨by rw [Nat.zero_mul]; exact hJ3, Step.refl _ _⟩ ?assign ?body ?done ?stop
 case assign =>
  rintro l2 k S1 x args z W1 K hx ⟨hj, hst⟩ ⟨Ar, cr, Aj, cj, rfl, hphi⟩ hK; have HSZ := Hd hst.size; clear hj hst hphi; have hu39 : Tryz.prog.underlying 39 = some (.slice 65) := by kernel_rfl
  have hu43 : Tryz.prog.underlying 43 = some (.slice 85) := by kernel_rfl
  gi_wp2; exact hK _ _ (below_alloc (below_alloc (Below.refl _ W1) _) _) ⟨Ar, cr, Aj, cj, W1.heap.size, W1.heap.size + 1, rfl, ⟨Nat.le_refl _, Nat.le_succ _, HSZ.out⟩, rfl, blk_alloc (blk_new W1 _) _, by have := blk_new (W1.alloc (.cells #[.slice Ar x.1.length cr] 39 (0, 0))) (.cells #[.slice Aj x.2.length cj] 43 (0, 0)); rw [World.size_alloc] at this; exact this⟩
 case body =>
  rintro l2 k S1 x args z n0 a' W1 hl2 ⟨r0, hr0⟩ hx hSn hzn hnW hSl hkR ⟨hj, hst⟩ ⟨Ar, cr, Aj, cj, he1, hRr, hRj⟩ ⟨Ar2, cr2, Aj2, cj2, Br, Bj, he2, ⟨hb1, hb2, hb3⟩, rfl, bx1, bx2⟩; rw [he1] at he2; cases he2; have hns : ∀ b, S1 b -> S b \/ w3.heap.size <= b := hst.sub; have HNS := Hd hns; have byS : ¬ S W.heap.size := fun h => by have := (HS.out _ h).2; omega
  have byS1 : ¬ S1 W.heap.size := hst.not byS BX3.out.lt; have bx0 := hst.boxed BX3.out byS; have cq1 : W1.cell? ⟨cq, 0, none⟩ = some (.slice A1 r.length c1) := by
   have hq := HRq.out; have h3 := HB3.out.size; refine (World.cell?_of_block (w := w3) (a := ⟨cq, 0, none⟩) (hst.keep cq zq4 (fun h => (HS.out cq h).1 hq.1))).trans (pw_cell_below HB3.out CQW.out)
  have hE1 : Below wE.heap.size wE W1 := (HEW.out.trans (HB3.out.mono HEW.out.size)).trans ((hkR.below fun b hb => .inl hb).mono (Nat.le_refl _)); have hit2 := groups_iterB (n - 1 - 1 - 1) zq4 A1 c1 r wE W1 HRR.out hE1 HM1.out HRV.out; rw [HI2.out] at hit2; obtain ⟨w4, hw4⟩ : ∃ w4, W1.alloc (.cells #[.slice A1 r.length c1] 22 (0, 0)) = w4 := ⟨_, rfl⟩
  have HB4 := Hd (show Below W1.heap.size W1 w4 by rw [<- hw4]; exact below_alloc (Below.refl _ _) _); have HS4 := Hd (show w4.heap.size = W1.heap.size + 1 by rw [<- hw4, World.size_alloc]); rw [hw4] at hit2; have HW4 := Hd hw4; have HIT2 := Hd hit2; have HSN := Hd (show (∀ b, S1 b -> b < z) /\ z <= n0 /\ n0 <= W1.heap.size /\ n0 <= Br /\ n0 <= Bj from ⟨hSn, hzn, hnW, hb1, hb2⟩); have HX := Hd hx; have HJ1 := Hd hj; have HST := Hd hst; have HR1 := Hd (Kd.R_below hRr HB4.out); have HR2 := Hd (Kd.R_below hRj HB4.out); have HBX0 := Hd (Boxed.below bx0 HB4.out); have HBX1 := Hd (Boxed.below bx1 HB4.out); have HBX2 := Hd (Boxed.below bx2 HB4.out); have HY0 := Hd byS1; have HL0 := Hd (loop_below HB4.out hr0); have HEz := Hd (show wE.heap.size <= w3.heap.size from Nat.le_trans HWE.out HB3.out.size); have HW3 := Hd (show w3.heap.size <= n0 from hb3); clear hx hj hst hSn hzn hnW hb1 hb2 hb3 hRr hRj bx0 bx1 bx2 byS byS1 hit2 hw4 hr0 hns hl2 hSl hkR hE1 he1
  gi_wp2_with (refine ⟨trivial, fun _ => ?hn, ?_⟩; (case hn => omega); (with_reducible refine (CallsIn.inRound l2 (callsIn_wide.2 (GD.out _))).mono ?_); rintro e w9 ⟨rfl, rfl⟩)
  rw [HW4.out]; have hS0' : ∀ b, S1 b -> ¬ (b < wE.heap.size \/ b = W1.heap.size) /\ b < w4.heap.size := by
   intro b hb; have h1 := HSN.out.1 b hb; have h2 := HSN.out.2; have h4 := HS4.out; have h5 := HEz.out; refine ⟨fun h => ?_, by omega⟩
   rcases h with h | h
   ·rcases HNS.out b hb with hs | hs
    ·exact (HS.out b hs).1 (HR0.out b h)
    ·omega
   ·omega
  have hJ4 := (HJ.out (k * m) S1).below HJ1.out (HB4.out); refine range_inner (F := Fence.wide.inRound l2) (l0 := l2) rfl HL0.out zq4 (gf := 84) (lb := #[.pointer (some ⟨W1.heap.size, 0, none⟩)]) rfl trivial (enters_of Tryz.func84 zq17 rfl) (IterOnB.inRound l2 HIT2.out) (Keeps.refl _ _) (fun x args z W h => by obtain ⟨_, _, _, _, rfl, _⟩ := h; rfl)
   (fun j S2 W2 => J (k * m + j) S2 W2 /\ Step S1 S2 w4 W2)
   (fun c S2 W2 => c = .exit 0 /\ Jx S2 W2 /\ Step S1 S2 w4 W2)
   (fun y args _ a' W2 => ∃ As ds Ag dg, args = #[.slice As y.1.length ds, .slice Ag y.2.length dg] /\ a' = { tmps := #[.func (.yield l') #[] #[], .pointer (some ⟨cp, 0, none⟩), .pointer (some ⟨cq, 0, none⟩), .pointer (some ⟨W.heap.size, 0, none⟩), .pointer (some ⟨Br, 0, none⟩), .pointer (some ⟨Bj, 0, none⟩), .slice As y.1.length ds, .slice Ag y.2.length dg, .slice A0 l.length c0, .func (.func 84) #[] #[.pointer (some ⟨W.heap.size + 1, 0, none⟩)], .slice Ar x.1.length cr, .slice Aj x.2.length cj, .slice A1 r.length c1, .func (.func 84) #[] #[.pointer (some ⟨W1.heap.size, 0, none⟩)], .slice As y.1.length ds, .slice Ag y.2.length dg, undef, undef, undef, undef, undef, undef, undef, undef], defers := [] })
   (fun j S2 => ((HJ.out _ S2).mono ?gb).and (Grow.step (Nat.le_refl _)))
   (fun c S2 => (Grow.const _ _).and (((HJX.out S2).mono ?gc).and (Grow.step (Nat.le_refl _)))) (fun x args z => Grow.phiB _ _ _ _)
   (fun y args _ a' => Grow.const _ _)
   S1 hS0' ⟨by rw [Nat.add_zero]; exact hJ4, Step.refl _ _⟩ ?assign2 ?body2 ?done2 ?stop2
  case gb => exact Nat.le_trans HB3.out.size (Nat.le_trans HST.out.size HB4.out.size)
  case gc => exact Nat.le_trans HB3.out.size (Nat.le_trans HST.out.size HB4.out.size)
  case assign2 =>
   rintro l3 j S2 y args z2 W2 K hy hi2 ⟨As, ds, Ag, dg, rfl, hphi⟩ hK; clear hi2 hphi; gi_wp2; exact hK _ _ (Below.refl _ W2) ⟨As, ds, Ag, dg, rfl, rfl⟩
  case body2 =>
   rintro l3 j S2 y args z2 n2 a' W2 hl3 ⟨r2, hr2⟩ hy hSn2 hzn2 hnW2 hSl2 hkR2 ⟨hj2, hst2⟩ ⟨As, ds, Ag, dg, he1, hRs, hRg⟩ ⟨As2, ds2, Ag2, dg2, he2, rfl⟩; rw [he1] at he2; cases he2; have hns0 : ¬ S1 Br := fun h => by have := HSN.out.1 Br h; have := HSN.out.2; omega
   have hns1 : ¬ S1 Bj := fun h => by have := HSN.out.1 Bj h; have := HSN.out.2; omega
   have cl0 := (hst2.boxed HBX0.out HY0.out).cell; have cl1 := (hst2.boxed HBX1.out hns0).cell; have cl2 := (hst2.boxed HBX2.out hns1).cell; have hSz : ∀ b, S1 b -> b < z := HSN.out.1; have hxy : (pairsL i1 i2)[k * m + j]? = some (x, y) := by rw [<- HMM.out]; exact pairsL_get i2 i1 k j x y HX.out hy
   obtain ⟨fn, tmps, assign, body, hyy, hRd⟩ := YieldAt.wide (l2 := l3) (m' := n - 1 - 1 - 1 - 1 - 1) (HY.out (k * m + j) (x, y) #[.agg #[.slice Ar x.1.length cr, .slice As y.1.length ds, .slice Aj x.2.length cj, .slice Ag y.2.length dg]] S2 W2 hxy hj2 (fun b hb => Nat.lt_of_lt_of_le (hSn2 b hb) (Nat.le_trans hzn2 hnW2)) ((((Step.of_below HB3.out).trans HST.out).trans (Step.of_below HB4.out)).trans hst2)
    ⟨Ar, cr, As, ds, Aj, cj, Ag, dg, rfl, ⟨Kd.R_lower (R_step HR1.out hst2 hSz) (Nat.zero_le _), Kd.R_lower hRs (Nat.zero_le _)⟩, Kd.R_lower (R_step HR2.out hst2 hSz) (Nat.zero_le _), Kd.R_lower hRg (Nat.zero_le _)⟩)
   have HST2 := Hd hst2; clear hxy hj2 hy hSn2 hzn2 hnW2 hSl2 hkR2 hr2 hl3 hRs hRg he1 hst2 hns0 hns1 hSz; gi_wp2; refine ⟨fun _ => by omega, hRd.mono ?_⟩; rintro e W' (⟨rfl, S3, hs3, hb3, hj3⟩ | ⟨rfl, S3, hs3, hb3, hj3⟩)
   ·have HQ := Hd hs3
    have HB3' := Hd hb3; have HJ3 := Hd hj3; clear hs3 hb3 hj3; gi_wp2; exact ⟨S3, HQ.out, HB3'.out, HJ3.out, HST2.out.trans HQ.out⟩
   ·have HQ := Hd hs3
    have HB3' := Hd hb3; have HJ3 := Hd hj3; clear hs3 hb3 hj3; gi_wp2; exact ⟨S3, HQ.out, HB3'.out, rfl, HJ3.out, HST2.out.trans HQ.out⟩
  case done2 =>
   rintro S2 W2 hst2 hsb2 ⟨hj2, hst3⟩; have HQ := Hd (show Step S1 S2 W1 W2 from (Step.of_below HB4.out).trans hst3); have HSB2 := Hd hsb2; have HJ2 := Hd (show J ((k + 1) * m) S2 W2 by rw [Nat.succ_mul, <- HMM.out] at *; exact hj2); clear hst2 hsb2 hj2 hst3; gi_wp2; exact ⟨S2, HQ.out, HSB2.out, HJ2.out, HST.out.trans HQ.out⟩
  case stop2 =>
   rintro c S2 W2 hst2 hsb2 ⟨rfl, hj2, hst3⟩; have HQ := Hd (show Step S1 S2 W1 W2 from (Step.of_below HB4.out).trans hst3); have HSB2 := Hd hsb2; have HJ2 := Hd hj2; clear hst2 hsb2 hj2 hst3; gi_wp2; exact ⟨S2, HQ.out, HSB2.out, rfl, HJ2.out, HST.out.trans HQ.out⟩
 case done =>
  rintro D S1 W1 hD hSD hst hsb ⟨hj, hst2⟩ hK; have HKK := Hd hK; have HSB := Hd hsb; have HJD := Hd ((HJ.out _ _).put (.deferred none) hj (Nat.le_trans HB3.out.size hD) hK rfl); have HSD := Hd ((Grow.step (S := S) (S1 := S1) (A := W) (Nat.le_refl _)).put (.deferred none) ((Step.of_below HB3.out).trans hst2) (Nat.le_trans HB3.out.size hD) hK rfl); clear hD hSD hst hsb hj hst2 hK; gi_wp2; refine ⟨by simp, .inl ⟨_, _, rfl, run_takeDeferred HKK.out, ?_⟩⟩; exact ⟨_, results_none rfl _ _ _, ⟨_, rfl⟩, S1, HSD.out, fun b hb => by rw [World.putObj_size]; exact HSB.out b hb, .inl (by rw [HI1.out, HI2.out, HJL.out]; exact HJD.out)⟩
 case stop =>
  rintro D c S1 W1 hD hSD hst hsb ⟨rfl, hj, hst2⟩ hK; have HKK := Hd hK; have HSB := Hd hsb; have HJD := Hd ((HJX.out _).put (.deferred none) hj (Nat.le_trans HB3.out.size hD) hK rfl); have HSD := Hd ((Grow.step (S := S) (S1 := S1) (A := W) (Nat.le_refl _)).put (.deferred none) ((Step.of_below HB3.out).trans hst2) (Nat.le_trans HB3.out.size hD) hK rfl); clear hD hSD hst hsb hj hst2 hK; gi_wp2; refine ⟨by simp, .inl ⟨_, _, rfl, run_takeDeferred HKK.out, ?_⟩⟩; exact ⟨_, results_none rfl _ _ _, ⟨_, rfl⟩, S1, HSD.out, fun b hb => by rw [World.putObj_size]; exact HSB.out b hb, .inr HJD.out⟩
attribute [local go_sem] Oper.semAt_some
theorem pairs_calls (A0 A1 : Option Addr) (c0 c1 n0 n1 : Nat) (w : World) :
  Calls Tryz.prog 63 #[.slice A0 n0 c0, .slice A1 n1 c1] w fun e w' => e = .returned (.func (.func 96) #[] #[.pointer (some ⟨w.heap.size, 0, none⟩), .pointer (some ⟨w.heap.size + 1, 0, none⟩)]) /\
   w' = (w.alloc (.cells #[.slice A0 n0 c0] 22 (0, 0))).alloc (.cells #[.slice A1 n1 c1] 22 (0, 0)) := by
 have hmf : ∀ (fn : Fn) (first cap : Array Value) (w : World), (Instr.makeFunc fn first cap).run Tryz.prog w = .ok (.func fn first cap) w := fun _ _ _ _ => rfl
 go_enter Tryz.func63, Tryz.ntmps63; go_wp2; go_ret; exact ⟨rfl, rfl⟩
def accR (ed : Gr -> Gr -> List EdP × Int) (out : List EdP) : List (Gr × Gr) -> List EdP × Int
 | [] => (out, 0)
 | x :: xs => if (ed x.1 x.2).2 ≠ 0 then ([], (ed x.1 x.2).2) else accR ed (out ++ (ed x.1 x.2).1) xs
theorem accR_drop (ed : Gr -> Gr -> List EdP × Int) (out : List EdP) (l : List (Gr × Gr)) (k : Nat) (x : Gr × Gr) (h : l[k]? = some x) :
  accR ed out (l.drop k) = if (ed x.1 x.2).2 ≠ 0 then ([], (ed x.1 x.2).2) else accR ed (out ++ (ed x.1 x.2).1) (l.drop (k + 1)) := by
 obtain ⟨hk, hx⟩ := List.getElem?_eq_some_iff.1 h; rw [List.drop_eq_getElem_cons hk, hx, accR]
theorem edgesJ_len (hh : List Vl -> Bool × Int) (x y : Gr) : (edgesJ hh x y).1.length <= 1024 := by
 unfold edgesJ
 repeat' split
 all_goals first | exact Nat.zero_le _ | exact buildP_len _ _
def PairsIs (hh : List Vl -> Bool × Int) (ef : Int) (l r : List EdP) (o : List EdP × Int) : Prop :=
 ((mayE l && mayE r) = false /\ o = ([], 2)) \/ ((mayE l && mayE r) = true /\ ef ≠ 0 /\ o = ([], ef)) \/
 ((mayE l && mayE r) = true /\ ef = 0 /\ (accR (edgesJ hh) [] (pairsL (runsP l) (runsP r))).2 ≠ 0 /\ o = ([], (accR (edgesJ hh) [] (pairsL (runsP l) (runsP r))).2)) \/
 ((mayE l && mayE r) = true /\ ef = 0 /\ (accR (edgesJ hh) [] (pairsL (runsP l) (runsP r))).2 = 0 /\ NormIs (accR (edgesJ hh) [] (pairsL (runsP l) (runsP r))).1 o)
theorem Pairs_calls (hh : List Vl -> Bool × Int) (ef : Int) (A0 A1 A2 : Option Addr) (c0 c1 c2 : Nat) (l r : List EdP) (x : List Op8) (w : World) (hr0 : Kd.C kE w A0 l.length l) (hrow : ∀ e ∈ l, e.f0.length <= 4398046511104)
  (hr1 : Kd.C kE w A1 r.length r) (hrow1 : ∀ e ∈ r, e.f0.length <= 4398046511104)
  (hr2 : Kd.C kO w A2 x.length x) (hc2 : x.length <= c2) (hhk : mayE l = true -> mayE r = true -> ∀ a b, a ∈ runsP l -> b ∈ runsP r -> (joinV a.1 b.1).2 = 0 -> ∃ k, eval_Holds.f k x (joinV a.1 b.1).1 = some (hh (joinV a.1 b.1).1)) (hfk : ∃ k, expr_Form.f k x = some ef) :
  Calls Tryz.prog 29 #[.slice A0 l.length c0, .slice A1 r.length c1, .slice A2 x.length c2] w fun e w' => ∃ v o, PairsIs hh ef l r o /\ e = .returned (.tuple #[v, .int .i64 o.2]) /\ Kd.R kE tE w' w.heap.size (fun _ => True) v o.1 /\ Below w.heap.size w w' := by
 have hu22 : Tryz.prog.underlying 22 = some (.slice 41) := by kernel_rfl
 have hu39 : Tryz.prog.underlying 39 = some (.slice 65) := by kernel_rfl
 have hu43 : Tryz.prog.underlying 43 = some (.slice 85) := by kernel_rfl
 have GC := Hd (pairs_calls A0 A1 c0 c1 l.length r.length); have MA := Hd (fun (w1 : World) (h : Below w.heap.size w w1) => May_calls A0 c0 l w1 (Kd.C_below hr0 h) hrow); have MB := Hd (fun (w1 : World) (h : Below w.heap.size w w1) => May_calls A1 c1 r w1 (Kd.C_below hr1 h) hrow1); have FC := Hd (fun (w1 : World) (h : Below w.heap.size w w1) => (show Calls Tryz.prog 47 #[.slice A2 x.length c2] w1 fun e w' => e = .returned (.int .i64 ef) /\ Below w1.heap.size w1 w' from hfk.elim fun k hk => expr_Form.calls k A2 c2 x ef w1 (Kd.C_below hr2 h) hc2 hk)); have HR := Hd hr0; have HRR := Hd hr1; have HRX := Hd hr2; have HCX := Hd hc2; have HRW := Hd hrow; have HRV := Hd hrow1; have HHK := Hd hhk; have HPI := Hd (fun o (h : PairsIs hh ef l r o) => h); clear hr0 hr1 hr2 hrow hrow1 hhk hfk hc2; refine (callsIn_wide (n := 40)).1 ?_; refine callsIn_of_wp_marks Tryz.func29 rfl trivial ?_ rfl; simp only [Tryz.ntmps29, List.size_toArray, List.length_cons, List.length_nil, Nat.reduceAdd, Nat.reduceSub, Array.replicate_succ, Array.replicate_zero, List.push_toArray, List.append_toArray, List.nil_append, List.cons_append]; gi_wp2; obtain ⟨W1, hW1⟩ : ∃ W1, ((w.alloc (.cells #[.slice A2 x.length c2] 24 (0, 0))).alloc (.cells #[.slice none 0 0] 22 (0, 0))).alloc (.cells #[.int .i64 0] 27 (0, 0)) = W1 := ⟨_, rfl⟩
 have hsW1 : W1.heap.size = w.heap.size + 3 := by rw [<- hW1]; simp
 have hbW1 : Below w.heap.size w W1 := by rw [<- hW1]; exact below_alloc (below_alloc (below_alloc (Below.refl _ w) _) _) _
 have bx3 : W1.heap[w.heap.size]? = some (.cells #[.slice A2 x.length c2] 24 (0, 0)) := by
  have h1 := blk_new (w) (.cells #[.slice A2 x.length c2] 24 (0, 0)); rw [<- hW1]; exact blk_alloc (blk_alloc (h1) _) _
 have bx4 : W1.heap[w.heap.size + 1]? = some (.cells #[.slice none 0 0] 22 (0, 0)) := by
  have h1 := blk_new (w.alloc (.cells #[.slice A2 x.length c2] 24 (0, 0))) (.cells #[.slice none 0 0] 22 (0, 0)); rw [World.size_alloc] at h1; rw [<- hW1]; exact blk_alloc (h1) _
 have bx5 : W1.heap[w.heap.size + 1 + 1]? = some (.cells #[.int .i64 0] 27 (0, 0)) := by
  have h1 := blk_new ((w.alloc (.cells #[.slice A2 x.length c2] 24 (0, 0))).alloc (.cells #[.slice none 0 0] 22 (0, 0))) (.cells #[.int .i64 0] 27 (0, 0)); rw [World.size_alloc, World.size_alloc] at h1; rw [<- hW1]; exact h1
 rw [hW1]; refine ⟨trivial, ?_⟩; refine (callsIn_wide.2 (MA.out W1 hbW1)).mono ?_; rintro e w2 ⟨rfl, hb2⟩; have HB2 := Hd (hbW1.trans (hb2.mono hbW1.size)); have HSW := Hd (show w.heap.size + 3 <= w2.heap.size by have := hb2.size; omega); have HX3 := Hd (Boxed.below (W := W1) (B := w.heap.size) (t := 24) (v := .slice A2 x.length c2) bx3 hb2); have HX4 := Hd (Boxed.below (W := W1) (B := w.heap.size + 1) (t := 22) (v := .slice none 0 0) bx4 hb2); have HX5 := Hd (Boxed.below (W := W1) (B := w.heap.size + 1 + 1) (t := 27) (v := .int .i64 0) bx5 hb2); clear hW1 hsW1 hbW1 bx3 bx4 bx5 hb2; have cl4 := HX4.out.cell; have fr4 := HX4.out.frozen; have HX5' := Hd (Boxed.other HX5.out (B' := w.heap.size + 1) zq4 (.slice none 0 0)); have cl5 := HX5'.out.cell; have fr5 := HX5'.out.frozen; obtain ⟨m, hm⟩ : ∃ m, mayE l = m := ⟨_, rfl⟩
 rw [hm]; cases m with
 | false =>
  have HO := Hd (HPI.out ([], 2) (.inl ⟨by rw [hm]; rfl, rfl⟩)); have HZ4 := Hd (Boxed.other (HX4.out.set (.slice none 0 0)) (B' := w.heap.size + 1 + 1) zq4 (.int .i64 2)); have HZ5 := Hd (HX5'.out.set (.int .i64 2)); have HZB := Hd (Below.setCell (Below.setCell HB2.out (p := ⟨w.heap.size + 1, 0, none⟩) zq61 (.slice none 0 0)) (p := ⟨w.heap.size + 1 + 1, 0, none⟩) zq52 (.int .i64 2)); clear hm; gi_wp2
  rename_i hk
  refine ⟨trivial, hk _ _ ?_⟩; clear hk; gi_wp2; exact ⟨_, results_c2 rfl _ _ _ rfl HZ4.out.cell (oneC_slice hu22) rfl HZ5.out.cell (oneC_int Tryz.underlying27), _, _, HO.out, rfl, Kd.R_nil _ _ _ _ _, HZB.out⟩
 | true =>
 have HM0 := Hd hm; clear hm; gi_wp2; refine ⟨trivial, ?_⟩; refine (callsIn_wide.2 (MB.out w2 HB2.out)).mono ?_; rintro e w3 ⟨rfl, hb3⟩; have HB3 := Hd (HB2.out.trans (hb3.mono HB2.out.size)); have HSW3 := Hd (show w.heap.size + 3 <= w3.heap.size by have := hb3.size; have := HSW.out; omega); have HY3 := Hd (Boxed.below HX3.out hb3); have HY4 := Hd (Boxed.below HX4.out hb3); have HY5 := Hd (Boxed.below HX5.out hb3); clear hb3 HX3 HX4 HX5 HX5' cl4 fr4 cl5 fr5 HB2 HSW; have cl4 := HY4.out.cell; have fr4 := HY4.out.frozen; have HY5' := Hd (Boxed.other HY5.out (B' := w.heap.size + 1) zq4 (.slice none 0 0)); have cl5 := HY5'.out.cell; have fr5 := HY5'.out.frozen; obtain ⟨m, hm⟩ : ∃ m, mayE r = m := ⟨_, rfl⟩
 rw [hm]; cases m with
 | false =>
  have HO := Hd (HPI.out ([], 2) (.inl ⟨by rw [hm, Bool.and_false], rfl⟩)); have HZ4 := Hd (Boxed.other (HY4.out.set (.slice none 0 0)) (B' := w.heap.size + 1 + 1) zq4 (.int .i64 2)); have HZ5 := Hd (HY5'.out.set (.int .i64 2)); have HZB := Hd (Below.setCell (Below.setCell HB3.out (p := ⟨w.heap.size + 1, 0, none⟩) zq61 (.slice none 0 0)) (p := ⟨w.heap.size + 1 + 1, 0, none⟩) zq52 (.int .i64 2)); clear hm; gi_wp2; exact ⟨_, results_c2 rfl _ _ _ rfl HZ4.out.cell (oneC_slice hu22) rfl HZ5.out.cell (oneC_int Tryz.underlying27), _, _, HO.out, rfl, Kd.R_nil _ _ _ _ _, HZB.out⟩
 | true =>
 have HM1 := Hd hm; have HMM := Hd (show (mayE l && mayE r) = true by rw [HM0.out, hm]; rfl); have cl3 := HY3.out.cell; clear hm; gi_wp2; refine ⟨trivial, ?_⟩; refine (callsIn_wide.2 (FC.out w3 HB3.out)).mono ?_; rintro e w4 ⟨rfl, hb4⟩; have HB4 := Hd (HB3.out.trans (hb4.mono HB3.out.size)); have HSW4 := Hd (show w.heap.size + 3 <= w4.heap.size by have := hb4.size; have := HSW3.out; omega); have HX3 := Hd (Boxed.below HY3.out hb4); have HX4 := Hd (Boxed.below HY4.out hb4); have HX5 := Hd (Boxed.below HY5.out hb4); clear hb4 HY3 HY4 HY5 HY5' cl3 cl4 fr4 cl5 fr5 HB3 HSW3
 by_cases hef : ef = 0
 case neg =>
  have be : (ef == 0) = false := beq_eq_false_iff_ne.2 hef; have HO := Hd (HPI.out ([], ef) (.inr (.inl ⟨HMM.out, hef, rfl⟩))); have cl4 := HX4.out.cell; have fr4 := HX4.out.frozen; have HX5' := Hd (Boxed.other HX5.out (B' := w.heap.size + 1) zq4 (.slice none 0 0)); have cl5 := HX5'.out.cell; have fr5 := HX5'.out.frozen; have HZ4 := Hd (Boxed.other (HX4.out.set (.slice none 0 0)) (B' := w.heap.size + 1 + 1) zq4 (.int .i64 ef)); have HZ5 := Hd (HX5'.out.set (.int .i64 ef)); have HZB := Hd (Below.setCell (Below.setCell HB4.out (p := ⟨w.heap.size + 1, 0, none⟩) zq61 (.slice none 0 0)) (p := ⟨w.heap.size + 1 + 1, 0, none⟩) zq52 (.int .i64 ef)); clear hef; gi_wp2; exact ⟨_, results_c2 rfl _ _ _ rfl HZ4.out.cell (oneC_slice hu22) rfl HZ5.out.cell (oneC_int Tryz.underlying27), _, _, HO.out, rfl, Kd.R_nil _ _ _ _ _, HZB.out⟩
 case pos =>
 subst hef
 gi_wp2_with (refine ⟨trivial, ?_⟩; (with_reducible refine (callsIn_wide.2 (GC.out _)).mono ?_); rintro e w5 ⟨rfl, rfl⟩)
 obtain ⟨W5, hW5⟩ : ∃ W5, (((w4.alloc (.cells #[] 41 (0, 0))).alloc (.cells #[.slice (some ⟨w4.heap.size, 0, none⟩) 0 0] 22 (0, 0))).alloc (.cells #[.slice A0 l.length c0] 22 (0, 0))).alloc (.cells #[.slice A1 r.length c1] 22 (0, 0)) = W5 := ⟨_, rfl⟩
 have hsW5 : W5.heap.size = w4.heap.size + 4 := by rw [<- hW5]; simp
 have hbW5 : Below w4.heap.size w4 W5 := by rw [<- hW5]; exact below_alloc (below_alloc (below_alloc (below_alloc (Below.refl _ w4) _) _) _) _
 have bk0 : W5.heap[w4.heap.size]? = some (.cells #[] 41 (0, 0)) := by
  have h1 := blk_new (w4) (.cells #[] 41 (0, 0)); rw [<- hW5]; exact blk_alloc (blk_alloc (blk_alloc (h1) _) _) _
 have bx7 : W5.heap[w4.heap.size + 1]? = some (.cells #[.slice (some ⟨w4.heap.size, 0, none⟩) 0 0] 22 (0, 0)) := by
  have h1 := blk_new (w4.alloc (.cells #[] 41 (0, 0))) (.cells #[.slice (some ⟨w4.heap.size, 0, none⟩) 0 0] 22 (0, 0)); rw [World.size_alloc] at h1; rw [<- hW5]; exact blk_alloc (blk_alloc (h1) _) _
 have bp : W5.heap[w4.heap.size + 1 + 1]? = some (.cells #[.slice A0 l.length c0] 22 (0, 0)) := by
  have h1 := blk_new ((w4.alloc (.cells #[] 41 (0, 0))).alloc (.cells #[.slice (some ⟨w4.heap.size, 0, none⟩) 0 0] 22 (0, 0))) (.cells #[.slice A0 l.length c0] 22 (0, 0)); rw [World.size_alloc, World.size_alloc] at h1; rw [<- hW5]; exact blk_alloc (h1) _
 have bq : W5.heap[w4.heap.size + 1 + 1 + 1]? = some (.cells #[.slice A1 r.length c1] 22 (0, 0)) := by
  have h1 := blk_new (((w4.alloc (.cells #[] 41 (0, 0))).alloc (.cells #[.slice (some ⟨w4.heap.size, 0, none⟩) 0 0] 22 (0, 0))).alloc (.cells #[.slice A0 l.length c0] 22 (0, 0))) (.cells #[.slice A1 r.length c1] 22 (0, 0)); rw [World.size_alloc, World.size_alloc, World.size_alloc] at h1; rw [<- hW5]; exact h1
 have hit := pairs1_iter 39 zq4 A0 A1 c0 c1 l r (w4.heap.size + 1 + 1) (w4.heap.size + 1 + 1 + 1) (fun b => b < w.heap.size \/ (b = w4.heap.size + 1 + 1 \/ b = w4.heap.size + 1 + 1 + 1)) w W5 HR.out HRR.out (HB4.out.trans (hbW5.mono HB4.out.size)) ((blk_cell bp 0).trans rfl) ((blk_cell bq 0).trans rfl) (fun b h => .inl h) (.inr (.inl rfl)) (.inr (.inr rfl)) (fun b hb => by have := HSW4.out; rcases hb with h | h | h <;> omega) HM0.out HM1.out HRW.out HRV.out; obtain ⟨its, hits⟩ : ∃ x, pairsL (runsP l) (runsP r) = x := ⟨_, rfl⟩
 have HIM := Hd (show ∀ y ∈ its, y.1 ∈ runsP l /\ y.2 ∈ runsP r from fun y h => by
  rw [<- hits] at h; unfold pairsL at h; obtain ⟨a, ha, hb⟩ := List.mem_flatMap.1 h; obtain ⟨b, hc, rfl⟩ := List.mem_map.1 hb; exact ⟨ha, hc⟩)
 have HIL := Hd (show its.length <= 16777216 by
  rw [<- hits, pairsL_len]; exact Nat.mul_le_mul (Nat.le_trans (runs_len l) (mayE_len HM0.out)) (Nat.le_trans (runs_len r) (mayE_len HM1.out)))
 rw [hits] at hit; have HBI := Hd (fun o (h : (((accR (edgesJ hh) [] its).2 ≠ 0 /\ o = ([], (accR (edgesJ hh) [] its).2)) \/ ((accR (edgesJ hh) [] its).2 = 0 /\ NormIs (accR (edgesJ hh) [] its).1 o))) => HPI.out o (by unfold PairsIs; rw [hits]; exact h.elim (fun h => .inr (.inr (.inl ⟨HMM.out, rfl, h⟩))) (fun h => .inr (.inr (.inr ⟨HMM.out, rfl, h⟩))))); rw [hW5]; have HS5 := Hd hsW5; have HB5 := Hd (HB4.out.trans (hbW5.mono HB4.out.size)); have HZ3 := Hd (Boxed.below HX3.out hbW5); have HZ4 := Hd (Boxed.below HX4.out hbW5); have HZ5 := Hd (Boxed.below HX5.out hbW5); have HZ7 := Hd (show Boxed W5 (w4.heap.size + 1) 22 (.slice (some ⟨w4.heap.size, 0, none⟩) 0 0) from bx7); have HO5 := Hd (show Kd.R kE tE W5 w.heap.size (fun _ => True) (.slice (some ⟨w4.heap.size, 0, none⟩) 0 0) [] from ⟨fun _ _ => trivial, [], ⟨rfl, .inr ⟨w4.heap.size, 0, #[], rfl, by have := HSW4.out; omega, bk0, Nat.le_refl _, Nat.zero_le _, rfl, rfl⟩⟩, Reps.none _ _⟩); have HIT := Hd hit; clear hW5 hsW5 hbW5 bk0 bx7 bp bq hit hits HX3 HX4 HX5; have hS0 : ∀ b, (fun b => OwnS (w4.heap.size + 1) (.slice (some ⟨w4.heap.size, 0, none⟩) 0 0) b \/ (b = w.heap.size + 1 \/ b = w.heap.size + 1 + 1)) b -> ¬ (b < w.heap.size \/ (b = w4.heap.size + 1 + 1 \/ b = w4.heap.size + 1 + 1 + 1)) /\ b < W5.heap.size := by
  intro b hb; have h1 := HS5.out; have h2 := HSW4.out
  rcases hb with (rfl | hb) | hb
  ·omega
  ·have : w4.heap.size = b := by simpa [Value.ownBlock] using hb
   omega
  ·omega
 refine range_outer (F := Fence.wide) rfl zq4 (gf := 96) (lb := #[.pointer (some ⟨w4.heap.size + 1 + 1, 0, none⟩), .pointer (some ⟨w4.heap.size + 1 + 1 + 1, 0, none⟩)]) rfl trivial (enters_of Tryz.func96 zq17 rfl) HIT.out (Keeps.refl _ _) (fun x args W h => by obtain ⟨_, _, _, _, _, _, _, _, rfl, _⟩ := h; rfl)
  (fun k S W => ∃ v out, S = (fun b => OwnS (w4.heap.size + 1) (v) b \/ (b = w.heap.size + 1 \/ b = w.heap.size + 1 + 1)) /\ Boxed W w.heap.size 24 (.slice A2 x.length c2) /\ Boxed W (w.heap.size + 1) 22 (.slice none 0 0) /\ Boxed W (w.heap.size + 1 + 1) 27 (.int .i64 0) /\
   Boxed W (w4.heap.size + 1) 22 v /\ Kd.R kE tE W w.heap.size (fun _ => True) v out /\ Below w.heap.size w W /\ (out.length <= k * 1024 /\ accR (edgesJ hh) [] its = accR (edgesJ hh) out (its.drop k)))
  (fun c S W => c = .ret /\ ∃ e, Boxed W (w.heap.size + 1) 22 (.slice none 0 0) /\ Boxed W (w.heap.size + 1 + 1) 27 (.int .i64 e) /\ Below w.heap.size w W /\ accR (edgesJ hh) [] its = ([], e) /\ e ≠ 0)
  (fun y args a' W => ∃ Aa ca Ab cb Af cf Ag cg Bp, args = #[.agg #[.slice Aa y.1.1.length ca, .slice Ab y.2.1.length cb, .slice Af y.1.2.length cf, .slice Ag y.2.2.length cg]] /\
   a' = { tmps := #[.slice A0 l.length c0, .slice A1 r.length c1, .slice A2 x.length c2, undef, undef, .pointer (some ⟨w.heap.size, 0, none⟩), .pointer (some ⟨w.heap.size + 1, 0, none⟩), .pointer (some ⟨w.heap.size + 1 + 1, 0, none⟩), .int .i64 0, .pointer (some ⟨w4.heap.size + 1, 0, none⟩), .pointer (some ⟨Bp, 0, none⟩), undef, undef, .slice A0 l.length c0, .bool true, .bool false, .bool false, .slice A1 r.length c1, .bool true, .bool false, .bool false, .slice A2 x.length c2, .int .i64 0, .int .i64 0, .bool false, undef, .slice (some ⟨w4.heap.size, 0, none⟩) 0 0, .slice A0 l.length c0, .slice A1 r.length c1, .func (.func 96) #[] #[.pointer (some ⟨w4.heap.size + 1 + 1, 0, none⟩), .pointer (some ⟨w4.heap.size + 1 + 1 + 1, 0, none⟩)], .agg #[.slice Aa y.1.1.length ca, .slice Ab y.2.1.length cb, .slice Af y.1.2.length cf, .slice Ag y.2.2.length cg], undef, undef, undef, undef, undef, undef, undef, undef, undef, undef, undef, undef, undef, undef, undef, undef], defers := [] } /\
   W.heap[Bp]? = some (.cells #[.slice Aa y.1.1.length ca, .slice Ab y.2.1.length cb, .slice Af y.1.2.length cf, .slice Ag y.2.2.length cg] 90 (0, 0)))
  (fun k S => Grow.ex fun v => Grow.ex fun out => (Grow.const _ _).and ((Grow.boxed _ _ _ _).and ((Grow.boxed _ _ _ _).and ((Grow.boxed _ _ _ _).and ((Grow.boxed _ _ _ _).and ((Grow.R _ _ _ _ _ _).and ((Grow.base (by have := HS5.out; have := HSW4.out; omega) w (Nat.le_refl _)).and (Grow.const _ _))))))))
  (fun c S => (Grow.const _ _).and (Grow.ex fun e => (Grow.boxed _ _ _ _).and ((Grow.boxed _ _ _ _).and ((Grow.base (by have := HS5.out; have := HSW4.out; omega) w (Nat.le_refl _)).and (Grow.const _ _)))))
  (fun y args => Grow.ex fun _ => Grow.ex fun _ => Grow.ex fun _ => Grow.ex fun _ => Grow.ex fun _ => Grow.ex fun _ => Grow.ex fun _ => Grow.ex fun _ => (Grow.const _ _).and (((Grow.R _ _ _ _ _ _).and (Grow.R _ _ _ _ _ _)).and ((Grow.R _ _ _ _ _ _).and (Grow.R _ _ _ _ _ _))))
  (fun y args a' => Grow.ex fun _ => Grow.ex fun _ => Grow.ex fun _ => Grow.ex fun _ => Grow.ex fun _ => Grow.ex fun _ => Grow.ex fun _ => Grow.ex fun _ => Grow.ex fun _ => (Grow.const _ _).and ((Grow.const _ _).and (Grow.blk _ _ _ _ _)))
  (fun b => OwnS (w4.heap.size + 1) (.slice (some ⟨w4.heap.size, 0, none⟩) 0 0) b \/ (b = w.heap.size + 1 \/ b = w.heap.size + 1 + 1)) hS0 ⟨_, [], rfl, HZ3.out, HZ4.out, HZ5.out, HZ7.out, HO5.out, HB5.out, Nat.zero_le _, by rw [List.drop_zero]⟩ ?assign ?body ?done ?stop
 case assign =>
  rintro l' k S y args W K hx hi ⟨Aa, ca, Ab, cb, Af, cf, Ag, cg, rfl, hphi⟩ hK; clear hi hphi; gi_wp2; exact hK _ _ (below_alloc (Below.refl _ W) _) ⟨Aa, ca, Ab, cb, Af, cf, Ag, cg, W.heap.size, rfl, rfl, blk_new W _⟩
 case body =>
  rintro l' k S y args a' W hl' ⟨r0, hr0⟩ hx hSb hSl hkR ⟨v, out, rfl, bx3, bx4, bx5, bx7, hRo, hBW, hout, hEE⟩ ⟨Aa, ca, Ab, cb, Af, cf, Ag, cg, he1, ⟨hRa, hRb⟩, hRf, hRg⟩ ⟨Aa2, ca2, Ab2, cb2, Af2, cf2, Ag2, cg2, Bp, he2, rfl, hbp⟩; rw [he1] at he2; cases he2; dsimp only []; have hxm := HIM.out y (List.mem_of_getElem? hx); have HH := Hd (accR_drop (edgesJ hh) out its k y hx); have HK := Hd (show k < 16777216 by have h1 := (List.getElem?_eq_some_iff.1 hx).1; have := HIL.out; omega); have HV := Hd (edges_calls hh y.1 y.2 Aa Ab Af Ag A2 ca cb cf cg c2 x W hRa hRb hRf hRg (Kd.C_below HRX.out hBW) HCX.out (HHK.out HM0.out HM1.out y.1 y.2 hxm.1 hxm.2)); have HEL := Hd (edgesJ_len hh y.1 y.2); obtain ⟨⟨es, he⟩, hhb⟩ : ∃ z, edgesJ hh y.1 y.2 = z := ⟨_, rfl⟩
  rw [hhb] at HV HH HEL; have HBX3 := Hd bx3; have HBX4 := Hd bx4; have HBX5 := Hd bx5; have HBX7 := Hd bx7; have HRO := Hd hRo; have HBW := Hd hBW; have HEE := Hd hEE; have HOUT := Hd hout; have HSB := Hd hSb; have cl3 := bx3.cell; obtain ⟨na, hna⟩ : ∃ n, y.1.1.length = n := ⟨_, rfl⟩
  obtain ⟨nb, hnb⟩ : ∃ n, y.2.1.length = n := ⟨_, rfl⟩
  obtain ⟨nf, hnf⟩ : ∃ n, y.1.2.length = n := ⟨_, rfl⟩
  obtain ⟨ng, hng⟩ : ∃ n, y.2.2.length = n := ⟨_, rfl⟩
  rw [hna, hnb, hnf, hng] at hbp HV ⊢; have y0 : W.cell? ⟨Bp, 0, none⟩ = some (.slice Aa na ca) := (blk_cell hbp 0).trans rfl; have y1 : W.cell? ⟨Bp, 1, none⟩ = some (.slice Ab nb cb) := (blk_cell hbp 1).trans rfl; have y2 : W.cell? ⟨Bp, 2, none⟩ = some (.slice Af nf cf) := (blk_cell hbp 2).trans rfl; have y3 : W.cell? ⟨Bp, 3, none⟩ = some (.slice Ag ng cg) := (blk_cell hbp 3).trans rfl; clear hRa hRb hRf hRg bx3 bx4 bx5 bx7 hBW hEE hx he1 hSb hSl hkR hr0 hl' hRo hout hxm hhb hna hnb hnf hng hbp; gi_wp2; refine ⟨trivial, ?_⟩; refine (CallsIn.inRound l' (callsIn_wide.2 HV.out)).mono ?_; rintro e w6 ⟨ve, rfl, hRe, hb6⟩; simp only at hRe ⊢; obtain ⟨Ae, ce, rfl, hce, hRd⟩ := OwnRow.reads hRe.2; have HRD := Hd hRd; have HB6 := Hd hb6; clear hb6 hRe y0 y1 y2 y3 cl3 hce hRd; have HQ3 := Hd (Boxed.below HBX3.out HB6.out); have HQ4 := Hd (Boxed.below HBX4.out HB6.out); have HQ5 := Hd (Boxed.below HBX5.out HB6.out); have HQ7 := Hd (Boxed.below HBX7.out HB6.out); have HRO6 := Hd (Kd.R_below HRO.out HB6.out)
  by_cases hee : he = 0
  ·have be : (he == 0) = true := by rw [hee]; rfl
   have HH2 := Hd (show accR (edgesJ hh) [] its = accR (edgesJ hh) (out ++ es) (its.drop (k + 1)) by rw [HEE.out, HH.out, if_neg (by simp [hee])]); clear hee; obtain ⟨o2, ho2⟩ : ∃ o2, out ++ es = o2 := ⟨_, rfl⟩
   have HL2 := Hd (show o2.length <= (k + 1) * 1024 by have h1 := HOUT.out; have h3 : es.length <= 1024 := HEL.out; rw [<- ho2, List.length_append]; omega); rw [ho2] at HH2; have HO2 := Hd ho2; have c7 := HQ7.out.cell; have HOWN := Hd (fun b (h : v.ownBlock = some b) => (own_ltR HRO.out h).2); clear ho2
   gi_wp2_with (refine wpListIn_append_R kE w.heap.size rfl _ _ 22 41 (.agg #[.slice none 0 0, (.int .i64 0), (.int .i64 0)]) 40 rfl hu22 info41 rfl zq34 zq4 v out es _ _ _ (fun _ => True) (fun k => W.heap.size <= k) rfl rfl HRO6.out HRD.out ?aM ?aK (fun _ _ => trivial) ?aS ?aL ?_)
   case aM => exact fun z cs h => kE.M_lower HBW.out.size (kE.M_mono (fun q hq => hq.2.1) (kE.M_bound h))
   case aK => exact fun q hq e' => Nat.lt_irrefl _ (Nat.lt_of_lt_of_le (HOWN.out q e'.symm) hq)
   case aS => exact Nat.le_trans HBW.out.size HB6.out.size
   case aL => have h1 := HOUT.out; have h2 := HK.out; have h3 : es.length <= 1024 := HEL.out; omega
   intro v1 w8 ho hb hat; rw [HO2.out] at ho; obtain ⟨Az, cz, rfl⟩ := Kd.R_slice ho; have HR7 := Hd HRO6.out; obtain ⟨z1, z2, z3, z4, z5⟩ := box_Rt HQ7.out HR7.out zq34 ho hb hat; have d7 := z1.cell; have g7 := z1.frozen; have HK3 := Hd (HQ3.out.kept hb (Kd.R_ne HR7.out HQ3.out zq34)); have HK4 := Hd (HQ4.out.kept hb (Kd.R_ne HR7.out HQ4.out zq34)); have HK5 := Hd (HQ5.out.kept hb (Kd.R_ne HR7.out HQ5.out zq34)); have HG := Hd hb; have HZ2 := Hd z2; have HZ3 := Hd z3; have HZ4 := Hd z4; have HZ5 := Hd z5; clear z1 z2 z3 z4 z5 ho hb hat c7; have HY := Hd ((Step.of_below (S := (fun b => OwnS (w4.heap.size + 1) v b \/ (b = w.heap.size + 1 \/ b = w.heap.size + 1 + 1))) HB6.out).trans (HZ4.out.wide (fun b => b = w.heap.size + 1 \/ b = w.heap.size + 1 + 1))); have HB7w := Hd (HBW.out.trans (HB6.out.mono HBW.out.size)); have hn4 : w.heap.size + 1 ≠ w4.heap.size + 1 := by have := HSW4.out; omega
   have hn5 : w.heap.size + 1 + 1 ≠ w4.heap.size + 1 := by have := HSW4.out; omega
   have hn3 : w.heap.size ≠ w4.heap.size + 1 := by have := HSW4.out; omega
   have HW4 := Hd (Boxed.other HK4.out hn4 (.slice Az o2.length cz)); have HW5 := Hd (Boxed.other HK5.out hn5 (.slice Az o2.length cz)); have HBF := Hd (Below.setCell (HB7w.out.trans (grown_base HR7.out HG.out HB7w.out.size)) (p := ⟨w4.heap.size + 1, 0, none⟩) (by show _ <= w4.heap.size + 1; have := HSW4.out; omega) (.slice Az o2.length cz)); have HYB := Hd (show ∀ b, (fun b => OwnS (w4.heap.size + 1) (.slice Az o2.length cz) b \/ (b = w.heap.size + 1 \/ b = w.heap.size + 1 + 1)) b -> b < (w8.setCell ⟨w4.heap.size + 1, 0, none⟩ (.slice Az o2.length cz)).heap.size from fun b hb => hb.elim (HZ5.out b) (fun hb => hb.elim (fun h => h.symm ▸ HW4.out.lt) (fun h => h.symm ▸ HW5.out.lt))); gi_wp2; exact ⟨_, HY.out, HYB.out, _, rfl, Boxed.other HK3.out hn3 _, HW4.out, HW5.out, HZ2.out, o2, HZ3.out, HBF.out, HL2.out, HH2.out⟩
  ·have be : (he == 0) = false := beq_eq_false_iff_ne.2 hee
   have HNE := Hd hee; have HH2 := Hd (show accR (edgesJ hh) [] its = ([], he) by rw [HEE.out, HH.out, if_pos hee]); clear hee; have q4 := HQ4.out.cell; have f4 := HQ4.out.frozen; have HQ5' := Hd (Boxed.other HQ5.out (B' := w.heap.size + 1) zq4 (.slice none 0 0)); have q5 := HQ5'.out.cell; have f5 := HQ5'.out.frozen; have HE1 := Hd (((Step.of_below (S := (fun b => OwnS (w4.heap.size + 1) v b \/ (b = w.heap.size + 1 \/ b = w.heap.size + 1 + 1))) HB6.out).trans (step_set (.inr (.inl rfl)) (.slice none 0 0))).trans (step_set (.inr (.inr rfl)) (.int .i64 he))); have HE14 := Hd (Boxed.other (HQ4.out.set (.slice none 0 0)) (B' := w.heap.size + 1 + 1) zq4 (.int .i64 he)); have HE15 := Hd (HQ5'.out.set (.int .i64 he)); have HE1W := Hd (Below.setCell (Below.setCell (HBW.out.trans (HB6.out.mono HBW.out.size)) (p := ⟨w.heap.size + 1, 0, none⟩) zq61 (.slice none 0 0)) (p := ⟨w.heap.size + 1 + 1, 0, none⟩) zq52 (.int .i64 he)); gi_wp2; exact ⟨_, HE1.out, fun b hb => Nat.lt_of_lt_of_le (HSB.out b hb) HE1.out.size, rfl, HE14.out, he, HE15.out, HE1W.out, HH2.out, HNE.out⟩
 case done =>
  rintro D S W hD hSD hst hsb ⟨v, out, rfl, bx3, bx4, bx5, bx6, hRo, hBW, hout, hEE⟩ hK; obtain ⟨Av, cv, rfl⟩ := Kd.R_slice hRo; rw [List.drop_length] at hEE; have hEE2 : accR (edgesJ hh) [] its = (out, 0) := hEE; have HBI2 := Hd (fun r (h : NormIs out r) => HBI.out r (.inr ⟨by rw [hEE2], by rw [hEE2]; exact h⟩)); have hD4 : D ≠ w.heap.size + 1 := by have := HS5.out; have := HSW4.out; omega
  have hD5 : D ≠ w.heap.size + 1 + 1 := by have := HS5.out; have := HSW4.out; omega
  have HD := Hd (show w.heap.size <= D by have := HS5.out; have := HSW4.out; omega); have cl6 := bx6.cell; have HX4D := Hd bx4; have HX5D := Hd bx5; have HBWD := Hd hBW; have HKD := Hd hK; have NC := Hd (NormE_calls Av cv out W (Kd.R_reads' hRo).2.2 (by have := HIL.out; omega)); clear hst hsb hSD bx3 bx4 bx5 bx6 hBW hEE hEE2 hRo hK; gi_wp2; refine ⟨trivial, ?_⟩; refine (callsIn_wide.2 NC.out).mono ?_; rintro e w7 ⟨vn, rn, hnorm, rfl, hRn, hb7⟩; obtain ⟨An, cn, rfl⟩ := Kd.R_slice hRn; have HRES := Hd (HBI2.out rn hnorm); have bx4 := Boxed.below HX4D.out hb7; have bx5 := Boxed.below HX5D.out hb7; have hK7 : w7.heap[D]? = some (.deferred (some [])) := (hb7.block D (Array.getElem?_eq_some_iff.1 HKD.out).1).trans HKD.out; have hBW7 := HBWD.out.trans (hb7.mono HBWD.out.size); have hRo := Kd.R_lower hRn HBWD.out.size; have cl4 := bx4.cell; have fr4 := bx4.frozen; have HB4' := Hd (Boxed.other (bx4.set (.slice An rn.1.length cn)) (B' := w.heap.size + 1 + 1) zq4 (.int .i64 rn.2)); have hb5 := Boxed.other bx5 (B' := w.heap.size + 1) zq4 (.slice An rn.1.length cn); have cl5 := hb5.cell; have fr5 := hb5.frozen; have HB5' := Hd (hb5.set (.int .i64 rn.2)); have HK2 := Hd (show ((w7.setCell ⟨w.heap.size + 1, 0, none⟩ (.slice An rn.1.length cn)).setCell ⟨w.heap.size + 1 + 1, 0, none⟩ (.int .i64 rn.2)).heap[D]? = some (.deferred (some [])) from ((Below.heap_setCell _ ⟨w.heap.size + 1 + 1, 0, none⟩ (.int .i64 rn.2) D hD5).trans (Below.heap_setCell w7 ⟨w.heap.size + 1, 0, none⟩ (.slice An rn.1.length cn) D hD4)).trans hK7); have HBY' := Hd (Below.setCell (Below.setCell hBW7 (p := ⟨w.heap.size + 1, 0, none⟩) zq61 (.slice An rn.1.length cn)) (p := ⟨w.heap.size + 1 + 1, 0, none⟩) zq52 (.int .i64 rn.2)); have HRZ := Hd ((Grow.R D tE w.heap.size (fun _ => True) (.slice An rn.1.length cn) rn.1).put (.deferred none) (Kd.R_set (Kd.R_set hRo bx4 zq34 0 (.slice An rn.1.length cn)) hb5 zq34 0 (.int .i64 rn.2)) (Nat.le_refl D) HK2.out rfl); clear bx4 bx5 hb5 hRo hRn hb7 hK7 hBW7 hnorm; gi_wp2; refine ⟨by simp, .inl ⟨_, _, rfl, run_takeDeferred HK2.out, ?_⟩⟩; exact ⟨_, results_c2 rfl _ _ _ rfl (Boxed.cell (put_boxed HB4'.out hD4.symm _)) (oneC_slice hu22) rfl (Boxed.cell (put_boxed HB5'.out hD5.symm _)) (oneC_int Tryz.underlying27), _, rn, HRES.out, rfl, HRZ.out, below_put (Nat.le_refl _) _ HBY'.out HD.out⟩
 case stop =>
  rintro D c S W hD hSD hst hsb ⟨rfl, e, bx4, bx5, hBW, hEE, hne⟩ hK; have HRES := Hd (HBI.out ([], e) (.inl ⟨by rw [hEE]; exact hne, by rw [hEE]⟩)); have hD4 : D ≠ w.heap.size + 1 := by have := HS5.out; have := HSW4.out; omega
  have hD5 : D ≠ w.heap.size + 1 + 1 := by have := HS5.out; have := HSW4.out; omega
  have HD := Hd (show w.heap.size <= D by have := HS5.out; have := HSW4.out; omega); have HB4' := Hd bx4; have HB5' := Hd bx5; have HBY' := Hd hBW; have HK2 := Hd hK; clear hK bx4 bx5 hBW hEE hst hsb hSD hne; gi_wp2; refine ⟨by simp, .inl ⟨_, _, rfl, run_takeDeferred HK2.out, ?_⟩⟩; exact ⟨_, results_c2 rfl _ _ _ rfl (Boxed.cell (put_boxed HB4'.out hD4.symm _)) (oneC_slice hu22) rfl (Boxed.cell (put_boxed HB5'.out hD5.symm _)) (oneC_int Tryz.underlying27), _, [], e, HRES.out, rfl, Kd.R_nil _ _ _ _ _, below_put (Nat.le_refl _) _ HBY'.out HD.out⟩
end Go.Proofs.YtmkgecapkeojaaaGreat.Eg
end
section
namespace Go.Proofs.YtmkgecapkeojaaaGreat.Eg
open Go.Proofs.YtmkgecapkeojaaaGreat Go.Proofs.YtmkgecapkeojaaaGreat.PDa
open Go.RowKit Go.Proofs.YtmkgecapkeojaaaGreatW.PrintWords Go.Proofs.YtmkgecapkeojaaaGreatW.PrintLast Go.Proofs.YtmkgecapkeojaaaGreatW.PrintMore
open Go.Proofs.YtmkgecapkeojaaaGreat.Stp Go.Proofs.YtmkgecapkeojaaaGreat.Rw Go.Proofs.YtmkgecapkeojaaaGreat.SortM
theorem hsame_calls (A0 A1 : Option Addr) (c0 c1 : Nat) (l : List EdP) (w : World) (hr0 : Kd.C kE w A0 l.length l) (hc0 : l.length <= c0) (hr1 : Kd.C kE w A1 l.length l) (hc1 : l.length <= c1) (hl : l.length <= 1000000000) (hrow : ∀ e ∈ l, e.f0.length <= 4398046511104) :
  Calls Tryz.prog 20 #[.slice A0 l.length c0, .slice A1 l.length c1] w fun e w' => e = .returned (.bool true) /\ Below w.heap.size w w' := by
 have HA := Hd hr0; have HD := Hd hr1; have HRW := Hd hrow; have HL := Hd hl; clear hr0 hr1 hrow hc0 hc1 hl; go_enter Tryz.func20, Tryz.ntmps20; go_wp2
 go_loopw [5] (fun v5 wr => ∃ (i : Nat), i <= l.length /\ v5 = .int .i64 (i : Int) /\ Aside0 (Below w.heap.size w wr)) (fun v5 wr => l.length - (intOf v5).toNat)
 case atStart => exact ⟨0, Nat.zero_le _, rfl, ⟨Below.refl _ _⟩⟩
 case round =>
  obtain ⟨i, hi, rfl, HB⟩ := hrel; have hll := HL.out
  by_cases c : i < l.length
  ·obtain ⟨X, hX⟩ : ∃ X, l[i] = X := ⟨_, rfl⟩
   obtain ⟨ad, Ax, cx, e1, x0, x1, x2, x3, x4⟩ := at_T41 (Kd.C_below HA.out HB.out) (i : Int) zq4 zq4; obtain ⟨bd, Ay, cy, e2, y0, y1, y2, y3, y4⟩ := at_T41 (Kd.C_below HD.out HB.out) (i : Int) zq4 zq4; rw [Int.toNat_natCast, rdE l i c, hX] at x0 x1 x2 y0 y1 y2; rw [rdE l i c, hX] at x3 x4 y3 y4; cases e1; cases e2; have hs := same06 X.f0 X.f0 (HRW.out X (by rw [<- hX]; exact List.getElem_mem c)); rw [eqR_refl] at hs; obtain ⟨ks, hks⟩ := hs.get; have CM := Hd (fun (p : BelowOf wr) => (show Calls Tryz.prog 53 #[.slice Ax X.f0.length cx, .slice Ay X.f0.length cy] p.W (fun e w' => e = .returned (.bool true) /\ Below p.W.heap.size p.W w') from (r06_Same.calls ks Ax cx X.f0 Ay cy X.f0 true p.W (Kd.C_below x4 p.h) x3 (Kd.C_below y4 p.h) y3 hks).mono fun e w' z => ⟨z.1, z.2.below⟩)); have x0' := fun p => BelowOf.cell x0 p
   have x1' := fun p => BelowOf.cell x1 p
   have x2' := fun p => BelowOf.cell x2 p
   have y0' := fun p => BelowOf.cell y0 p
   have y1' := fun p => BelowOf.cell y1 p
   have y2' := fun p => BelowOf.cell y2 p
   have pI : (0 <= (i : Int)) = True := eq_true zq4; have qI : ((i : Int) < (l.length : Int)) = True := eq_true zq4; clear x3 x4 y3 y4 hs hks hX; go_wp2; refine wp_region_quiet_below zq17 zq17 ?_
   repeat (go_big_quiet_step (exact below_calls (CM.out _)))
   refine wpQuiet_nil ?_; intro wq hw1; have HWQ := Hd (show Below wr.heap.size wr wq by obtain ⟨p, rfl⟩ := hw1; exact p.h); have HBN := Hd (HB.out.trans (HWQ.out.mono HB.out.size)); clear hw1 x0' x1' x2' y0' y1' y2' x0 x1 x2 y0 y1 y2; go_wp2; go_roundw
   case rel => exact ⟨i + 1, by omega, by go_num, ⟨HBN.out⟩⟩
   case measure => simp [intOf]; omega
  ·obtain rfl : i = l.length := by omega
   go_wp2; go_ret; exact ⟨rfl, HB.out⟩
end Go.Proofs.YtmkgecapkeojaaaGreat.Eg
end
section
namespace Go.Proofs.YtmkgecapkeojaaaGreat.Eg
open Go.Proofs.YtmkgecapkeojaaaGreat Go.Proofs.YtmkgecapkeojaaaGreat.PDa
open Go.RowKit Go.Proofs.YtmkgecapkeojaaaGreatW.PrintWords Go.Proofs.YtmkgecapkeojaaaGreatW.PrintLast Go.Proofs.YtmkgecapkeojaaaGreatW.PrintMore
open Go.Proofs.YtmkgecapkeojaaaGreat.Stp Go.Proofs.YtmkgecapkeojaaaGreat.Rw
structure Hold (p : Prop) : Prop where
 out : p
theorem hold_intro {p : Prop} (h : Hold p) : p := h.out
def v1 : Vl := ⟨1, 1, ⟨#[]⟩⟩
def v2 : Vl := ⟨1, 2, ⟨#[]⟩⟩
def e1 : EdP := ⟨[v1], 2, 1⟩
def e2 : EdP := ⟨[v1], 5, -1⟩
def e3 : EdP := ⟨[v2], 5, 1⟩
theorem C_lit {α : Type} {d : Kd α} {W : World} {B : Nat} {t : TypeId} {cs : Array Value} {ps qs : List α} {inner : List Value} {n : Nat} (hq : ps = qs) (hb : W.heap[B]? = some (.cells cs t (0, 0))) (hi : cs.toList = inner) (hn : qs.length = n) (hn2 : n <= 100) (hr : Reps (d.K W) d.sz ps inner) : Kd.C d W (some ⟨B, 0, none⟩) n qs := by
 subst hq; subst hn; have ho : OwnRow (d.K W) t d.sz W 0 (.slice (some ⟨B, 0, none⟩) ps.length ps.length) ps := ⟨inner, ⟨hr.1, .inr ⟨B, ps.length, cs, rfl, Nat.zero_le _, hb, Nat.le_refl _, by unfold maxLen; omega, by rw [<- Array.length_toList, hi, hr.1], by rw [hi, List.take_of_length_le (by rw [hr.1]; exact Nat.le_refl _)]⟩⟩, hr⟩
 obtain ⟨A, c, he, _, h⟩ := OwnRow.reads ho; cases he; exact h
theorem mapR_sub (g : List Jp -> List Jp × Int) : ∀ (gs : List (List Vl × List Jp)) (out : List EdP), (∀ e ∈ (mapR g out gs).1, e ∈ out \/ ∃ x ∈ gs, e.f0 = x.1) /\ (out.length <= 4096 -> (mapR g out gs).1.length <= 4096)
 | [], out => by rw [mapR]; exact ⟨fun e he => .inl he, fun h => h⟩
 | x :: xs, out => by
  rw [mapR]
  split
  ·exact ⟨by simp, by simp⟩
  ·split
   ·exact ⟨by simp, by simp⟩
   ·rename_i c
    obtain ⟨h1, h2⟩ := mapR_sub g xs (putP out x.1 (g x.2).1); refine ⟨fun e he => ?_, fun _ => h2 zq4⟩
    rcases h1 e he with h | ⟨y, hy, h⟩
    ·unfold putP at h
     rw [List.mem_append] at h
     rcases h with h | h
     ·exact .inl h
     ·obtain ⟨j, _, rfl⟩ := List.mem_map.1 h
      exact .inr ⟨x, List.mem_cons_self, rfl⟩
    ·exact .inr ⟨y, List.mem_cons_of_mem _ hy, h⟩
theorem normV_sub (l : List EdP) : (∀ e ∈ (normV l).1, e.f0.length <= 8) /\ (normV l).1.length <= 4096 := by
 unfold normV
 split
 ·exact ⟨by simp, by simp⟩
 ·split
  ·exact ⟨by simp, by simp⟩
  ·rename_i h _
   obtain ⟨h1, h2⟩ := mapR_sub normJ (groups l) []; refine ⟨fun e he => ?_, h2 zq30⟩
   rcases h1 e he with h3 | ⟨x, hx, h3⟩
   ·simp at h3
   ·obtain ⟨r, hr, rfl⟩ := List.mem_map.1 hx
    obtain ⟨e', he', e1⟩ := (rowsOf_mem l r).1 hr; have ha : argE e' = false := by
     cases c : argE e' with
     | false => rfl
     | true => exact absurd (List.any_eq_true.2 ⟨e', he', c⟩) h
    have := may_len (argE_parts ha).1; rw [h3]
    show r.length <= 8
    rw [<- e1]; exact this
def Ans (r : List EdP × Int) (w : World) (e : Ending) (w' : World) : Prop := ∃ A c, e = .returned (.tuple #[.slice A r.1.length c, .int .i64 r.2]) /\ Kd.C kE w' A r.1.length r.1 /\ r.1.length <= c /\ Below w.heap.size w w'
end Go.Proofs.YtmkgecapkeojaaaGreat.Eg
end
section
namespace Go.Proofs.YtmkgecapkeojaaaGreat.Eg
open Go.Proofs.YtmkgecapkeojaaaGreat Go.Proofs.YtmkgecapkeojaaaGreat.PDa
open Go.Proofs.YtmkgecapkeojaaaGreat.EvP (evalV formV holdsV)
open Go.RowKit Go.Proofs.YtmkgecapkeojaaaGreatW.PrintWords Go.Proofs.YtmkgecapkeojaaaGreat.Stp Go.Proofs.YtmkgecapkeojaaaGreat.Rw Go.Proofs.YtmkgecapkeojaaaGreat.Cmp Go.Proofs.YtmkgecapkeojaaaGreat.Canon
def pairsV (hh : List Vl -> Bool × Int) (ef : Int) (l r : List EdP) : List EdP × Int :=
 if (mayE l && mayE r) = true then (if ef ≠ 0 then ([], ef) else if (accR (edgesJ hh) [] (pairsL (runsP l) (runsP r))).2 ≠ 0 then ([], (accR (edgesJ hh) [] (pairsL (runsP l) (runsP r))).2)
  else normV (accR (edgesJ hh) [] (pairsL (runsP l) (runsP r))).1) else ([], 2)
theorem pairs_is {hh : List Vl -> Bool × Int} {ef : Int} {l r : List EdP} {o : List EdP × Int} (h : PairsIs hh ef l r o) : o = pairsV hh ef l r := by
 unfold pairsV
 rcases h with ⟨h1, h2⟩ | ⟨h1, h2, h3⟩ | ⟨h1, h2, h3, h4⟩ | ⟨h1, h2, h3, h4⟩
 ·rw [if_neg (by rw [h1]; decide), h2]
 ·rw [if_pos h1, if_pos h2, h3]
 ·rw [if_pos h1, if_neg (by simpa using h2), if_pos h3, h4]
 ·rw [if_pos h1, if_neg (by simpa using h2), if_neg (by simpa using h3)]; exact norm_is h4
theorem rowMay_app {a b : List Vl} (ha : rowMay a = true) (hb : rowMay b = true) (h : a.length + b.length <= 8) : rowMay (a ++ b) = true := by
 unfold rowMay; rw [Bool.and_eq_true, List.all_append, Bool.and_eq_true, List.all_eq_true, List.all_eq_true]; exact ⟨DET (by rw [List.length_append]; omega), rowMay_all ha, rowMay_all hb⟩
theorem joinV_ok {a b c : List Vl} (h : joinV a b = (c, 0)) : rowMay a = true /\ rowMay b = true /\ a.length + b.length <= 8 /\ c = a ++ b := by
 unfold joinV at h
 by_cases h1 : (rowMay a && rowMay b) = true
 ·rw [if_pos h1] at h
  rw [Bool.and_eq_true] at h1
  by_cases h2 : 8 < a.length + b.length
  ·rw [if_pos h2] at h; cases h
  ·rw [if_neg h2] at h
   exact ⟨h1.1, h1.2, by omega, (congrArg Prod.fst h).symm⟩
 ·rw [if_neg h1] at h; cases h
end Go.Proofs.YtmkgecapkeojaaaGreat.Eg
end
section
namespace Go.Proofs.YtmkgecapkeojaaaGreat.Eg
open Go.Proofs.YtmkgecapkeojaaaGreat Go.Proofs.YtmkgecapkeojaaaGreat.PDa Go.Proofs.YtmkgecapkeojaaaGreat.EvP
open Go.RowKit Go.Proofs.YtmkgecapkeojaaaGreatW.PrintWords Go.Proofs.YtmkgecapkeojaaaGreatW.PrintLast Go.Proofs.YtmkgecapkeojaaaGreatW.PrintMore
open Go.Proofs.YtmkgecapkeojaaaGreat.Stp Go.Proofs.YtmkgecapkeojaaaGreat.Rw
theorem nilT : (⟨#[]⟩ : ByteArray).toList = [] := (toList_nil_iff_emptyBytes _).2 rfl
theorem rowMay1 (a : Int) : rowMay [⟨1, a, ⟨#[]⟩⟩] = true := by simp [rowMay, thOf, nilT]
theorem thO_num (a : Int) : thO (Th.num a) = some (Th.num a) := by
 simp [thO, thVal3, thOf]
end Go.Proofs.YtmkgecapkeojaaaGreat.Eg
end
