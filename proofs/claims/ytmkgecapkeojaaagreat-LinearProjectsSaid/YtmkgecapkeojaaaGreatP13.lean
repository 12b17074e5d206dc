/- Texts of this claim, put together by a program: HParts, HOf, HEval, HMade, RefProj, LawP, LawPW, WSized. -/
import Derived.Test.YtmkgecapkeojaaaGreatP12
import Derived.SizedLaws
import Derived.ChangeSlices
set_option linter.unusedVariables false
set_option linter.unusedSimpArgs false
set_option maxHeartbeats 8000000
set_option maxRecDepth 100000
section
namespace Go.Proofs.YtmkgecapkeojaaaGreat.Eg
open Go.Proofs.YtmkgecapkeojaaaGreat Go.Proofs.YtmkgecapkeojaaaGreat.PDa
open Go.RowKit Go.Proofs.YtmkgecapkeojaaaGreatW.PrintWords Go.Proofs.YtmkgecapkeojaaaGreatW.PrintLast Go.Proofs.YtmkgecapkeojaaaGreatW.PrintMore
open Go.Proofs.YtmkgecapkeojaaaGreat.Rw
open Go.Proofs.YtmkgecapkeojaaaGreat.EvP (T takes takes_R tail_C)
abbrev Op18 := S68
abbrev kOp := k68
abbrev tO : Nat := 68
abbrev tX : Nat := 24
abbrev tXs : Nat := 32
def kidsT : T → List T
 | .l _ => []
 | .u _ t => [t]
 | .b _ t s => [t, s]
def flT : List T → List Op18
 | [] => []
 | t :: ts => t.fl ++ flT ts
theorem flT_snoc (s : T) : ∀ ts : List T, flT (ts ++ [s]) = flT ts ++ s.fl
 | [] => by simp [flT]
 | t :: ts => by rw [List.cons_append, flT, flT, flT_snoc s ts, List.append_assoc]
theorem kids_fl (t : T) (ht : t.ok) : t.fl = flT (kidsT t) ++ [t.top] ∧ t.kids = (kidsT t).map T.fl ∧ (takes t.top.f0 = ((kidsT t).length : Int)) ∧ (kidsT t).length ≤ 2 ∧ ∀ s ∈ kidsT t, s.ok := by
 cases t with
 | l o => exact ⟨by simp [T.fl, kidsT, flT, T.top], rfl, by rw [T.top, ht.2]; rfl, by simp [kidsT], by simp [kidsT]⟩
 | u o t => exact ⟨by simp [T.fl, kidsT, flT, T.top], rfl, by rw [T.top, ht.2.1]; rfl, by simp [kidsT], by simp [kidsT]; exact ht.2.2⟩
 | b o t s => exact ⟨by simp [T.fl, kidsT, flT, T.top], rfl, by rw [T.top, ht.2.1]; rfl, by simp [kidsT], by simp [kidsT]; exact ht.2.2⟩
theorem hparts_calls (t : T) (ht : t.ok) (hl : t.fl.length ≤ 64) (A0 : Option Addr) (c0 : Nat) (w : World) (hx : Kd.C kOp w A0 t.fl.length t.fl) (hc0 : t.fl.length ≤ c0) :
  Calls Tryz.prog 157 #[.slice A0 t.fl.length c0] w fun e w' => ∃ A c, e = .returned (.slice A t.kids.length c) ∧ Kd.C (Kd.slice tO kOp) w' A t.kids.length t.kids ∧ Below w.heap.size w w' := by
 obtain ⟨hfl, hkd, htk, hk2, hok⟩ := kids_fl t ht; obtain ⟨K0, hK0⟩ : ∃ z, kidsT t = z := ⟨_, rfl⟩
 obtain ⟨o, ho⟩ : ∃ z, t.top = z := ⟨_, rfl⟩
 rw [hK0, ho] at hfl; rw [hK0, ho] at htk; rw [hK0] at hkd hk2 hok; obtain ⟨x, hxe⟩ : ∃ z, t.fl = z := ⟨_, rfl⟩
 rw [hkd]; rw [hxe] at hfl hx hc0 hl ⊢; have huX := Tryz.underlying24; have huXs := Tryz.underlying32; obtain ⟨i0, hi0, _, hsz0, _⟩ := info_parts info68; have hxl : x.length = (flT K0).length + 1 := by rw [hfl]; simp
 obtain ⟨ad, e1, x0, _, _⟩ := at_T68 hx (((flT K0).length : Nat) : Int) zq4 zq4; have hro : rd_T68 x (((flT K0).length : Nat) : Int) = o := by
  unfold rd_T68; rw [Int.toNat_natCast, hfl, List.getD_eq_getElem?_getD]; simp
 rw [Int.toNat_natCast, hro] at x0; cases e1; obtain ⟨m, hm⟩ : ∃ z, (flT K0).length = z := ⟨_, rfl⟩
 rw [hm] at x0 hxl; have hw1 : wrap64 ((x.length : Int) - 1) = (m : Int) := by unfold wrap64; omega
 have pK : (0 ≤ (m : Int)) = True := eq_true zq4; have qK : ((m : Int) < (x.length : Int)) = True := eq_true zq4; have hcut := cut_to (P := Tryz.prog) tX tO .i64 huX hi0 (some ad) x.length c0 (m : Int) zq4 zq4 hc0; simp only [Int.toNat_natCast] at hcut; obtain ⟨kt, hkt⟩ := (takes_R o.f0).get; rw [htk] at hkt; have TC := Lib.hid (fun W => r17_Takes.calls kt o.f0 (K0.length : Int) W hkt); have X0 := Lib.hid x0; have HX := Lib.hid hx; have HM := Lib.hid (show Kd.C kOp w (some ad) m (flT K0) by
  have h := Kd.C_take (m := m) hx zq4; rw [show x.take m = flT K0 by rw [hfl, ← hm, List.take_left']; rfl, hm] at h; exact h)
 have HXL := Lib.hid hxl; have HL := Lib.hid hl; have HOK := Lib.hid hok; have HK2 := Lib.hid hk2; have HFM := Lib.hid hm; have HC0 := Lib.hid hc0; clear x0 hx hxl hl hok hk2 hm hfl hkd htk hkt hxe hK0 ho hro hc0 ht; go_enter Tryz.func157, Tryz.ntmps157
 go_wp2_with (first | ((with_reducible refine gate_dst (N := 7) rfl ?_); refine Kd.R_lit (kHd tO kOp w) _ tX ?hg (N := 7) ?hd (xs := ([] : List (List Op18))) (inner := []) (ok := fun _ => True) (okp := fun _ => True) ?hr ?hp (fun _ hk => hk) trivial (Below.refl _ _) (Nat.le_refl _) zq30 ?_; (case hd => rfl); (case hg => rfl); (case hr => first | (go_simp; done) | (go_simp; rfl)); (case hp => exact (Reps.none _ _)); intro v7 w1 ho1 hb1 hg_ hnew_; have HO1 := Lib.hid ho1; have HB1 := Lib.hid hb1; clear hg_ hnew_ hb1 ho1))
 clear hcut
 go_loopw [3, 4, 5] (fun v3 v4 v5 wr => ∃ (ks : List T) (outs : List (List Op18)) (A3 : Option Addr) (c3 : Nat) (A4 : Option Addr) (c4 : Nat), v5 = .int .i64 ((K0.length - ks.length : Nat) : Int) ∧ v3 = .slice A3 outs.length c3 ∧ v4 = .slice A4 (flT ks).length c4 ∧ ks.length ≤ K0.length ∧
  Aside0 ((kHd tO kOp wr).R tX wr w.heap.size (fun _ => True) (.slice A3 outs.length c3) outs) ∧ Aside0 (Kd.C kOp w A4 (flT ks).length (flT ks)) ∧ Aside0 ((flT ks).length ≤ c4) ∧ Aside0 ((flT ks).length ≤ 64) ∧ Aside0 (Below w.heap.size w wr) ∧ Aside0 (K0.map T.fl = ks.map T.fl ++ outs) ∧ Aside0 (∀ s ∈ ks, s.ok)) (fun v3 v4 v5 wr => K0.length - (intOf v5).toNat)
 case atStart =>
  obtain ⟨A3, c3, rfl⟩ := Kd.R_slice HO1.out; have h1 := HXL.out; have h2 := HL.out; have h3 := HC0.out; have h4 := HFM.out; exact ⟨K0, [], A3, c3, _, _, by rw [Nat.sub_self]; rfl, rfl, by rw [HFM.out], Nat.le_refl _, ⟨kHd_up HB1.out HO1.out⟩, ⟨by rw [HFM.out]; exact HM.out⟩, ⟨by omega⟩, ⟨by omega⟩, ⟨HB1.out⟩, ⟨by simp⟩, ⟨HOK.out⟩⟩
 case round =>
  clear HO1 HB1 HM HOK; obtain ⟨ks, outs, A3, c3, A4, c4, rfl, rfl, rfl, hks, HO, HR, HC4, HN4, HB, HEQ, HKO⟩ := hrel; have x0 := pw_cell_below HB.out X0.out; obtain ⟨rest, hrest⟩ : ∃ z, flT ks = z := ⟨_, rfl⟩
  obtain ⟨j, hj⟩ : ∃ z, K0.length - ks.length = z := ⟨_, rfl⟩
  rw [hrest] at HR HC4 HN4 ⊢; rw [hj]; have HJ := Lib.hid hj; have HRE := Lib.hid hrest; clear hj hrest
  rcases List.eq_nil_or_concat ks with hk | ⟨ks', s, hk⟩
  ·have bj : decide (j < K0.length) = false := decide_eq_false (by have := HJ.out; rw [hk] at this; simp at this; omega)
   have HE := Lib.hid (show outs = K0.map T.fl by rw [HEQ.out, hk]; rfl); clear hk HEQ
   go_wp2_with (go_at_call 130; refine hold3 ?_)
   refine ⟨?_⟩; refine (TC.out _).mono ?_; rintro e wt ⟨rfl, hbt⟩; have HBt := Lib.hid hbt.below; clear hbt; go_wp2; go_ret; rw [← HE.out]; exact ⟨A3, c3, rfl, kHd_C HBt.out (Kd.R_reads' (Kd.R_below HO.out HBt.out)).2.2, HB.out.trans (HBt.out.mono HB.out.size)⟩
  ·rw [List.concat_eq_append] at hk
   have hrp : rest = flT ks' ++ s.fl := by rw [← HRE.out, hk, flT_snoc]
   have hso : s.ok := HKO.out s (by rw [hk]; simp); have hkl : ks.length = ks'.length + 1 := by rw [hk]; simp
   have bj : decide (j < K0.length) = true := decide_eq_true (by have := HJ.out; omega); obtain ⟨p, hp⟩ : ∃ z, flT ks' = z := ⟨_, rfl⟩
   rw [hp] at hrp; have hrl : rest.length = p.length + s.fl.length := by rw [hrp, List.length_append]
   have hn4 := HN4.out; have hc4 := HC4.out; obtain ⟨kl, hkl2⟩ := (tail_C s hso p (by rw [← hrp]; exact hn4)).get; rw [← hrp] at hkl2; have LC := Lib.hid (fun W h => r17_Tail.calls kl A4 c4 rest (s.fl.length : Int) W h hc4 hkl2); have hw2 : wrap64 ((rest.length : Int) - (s.fl.length : Int)) = (p.length : Int) := by unfold wrap64; omega
   obtain ⟨i0, hi0, _, hsz0, _⟩ := info_parts info68; have hct := cut_to (P := Tryz.prog) tX tO .i64 huX hi0 A4 rest.length c4 (p.length : Int) zq4 zq4 hc4; have hcf := cut_from (P := Tryz.prog) tX tO .i64 huX hi0 3 hsz0 A4 rest.length c4 (p.length : Int) zq4 zq4; simp only [Int.toNat_natCast] at hct hcf; rw [show rest.length - p.length = s.fl.length by omega] at hcf; have HRT := Lib.hid (show Kd.C kOp w A4 p.length p by
    have h := Kd.C_take (m := p.length) HR.out zq4; rw [hrp, List.take_left'] at h <;> first | exact h | rfl)
   have HRD := Lib.hid (show Kd.C kOp w (if c4 = p.length then A4 else A4.map (·.add (p.length * 3))) s.fl.length s.fl by
    have h := Kd.C_drop (m := p.length) HR.out zq4 hc4; rw [hrp, List.drop_left'] at h <;> first | exact h | rfl)
   obtain ⟨AF, hAF⟩ : ∃ z, (if c4 = p.length then A4 else A4.map (·.add (p.length * 3))) = z := ⟨_, rfl⟩
   rw [hAF] at hcf HRD; obtain ⟨sf, hsf⟩ : ∃ z, s.fl = z := ⟨_, rfl⟩
   rw [hsf] at hcf HRD LC hw2 hrl; have HSF := Lib.hid hsf; have HKS := Lib.hid hk; have HPP := Lib.hid hp; have HKL := Lib.hid hkl; have HRL := Lib.hid hrl; clear hk hp hkl hrp hAF hkl2 hsf hi0 hsz0 hso hrl hn4 hc4
   go_wp2_with (go_at_call 130; refine hold3 ?_)
   refine ⟨?_⟩; refine (TC.out _).mono ?_; rintro e wt ⟨rfl, hbt⟩; have HBt := Lib.hid hbt.below; clear hbt
   go_wp2_with (go_at_call 88; refine hold3 ?_)
   refine ⟨?_⟩; refine (LC.out _ (Kd.C_below HR.out (HB.out.trans (HBt.out.mono HB.out.size)))).mono ?_; rintro e wu ⟨rfl, hbu⟩; have HBU := Lib.hid (show Below wr.heap.size wr wu from HBt.out.trans (hbu.mono HBt.out.size)); have HRX := Lib.hid (fun (W : World) (h : Below wu.heap.size wu W) => Kd.C_below HRD.out ((HB.out.trans (HBU.out.mono HB.out.size)).trans (h.mono (Nat.le_trans HB.out.size HBU.out.size)))); have HSL := Lib.hid (show sf.length ≤ 64 by have := HRL.out; have := HN4.out; omega); have HOL := Lib.hid (show outs.length ≤ 64 by have h := congrArg List.length HEQ.out; rw [List.length_map, List.length_append] at h; have := HK2.out; omega); clear hbu HBt LC x0
   go_wp2_with (first
    | ((with_reducible refine gate_dst (N := 27) rfl ?_); refine Kd.R_lit kOp _ tO ?hg (N := 27) ?hd (xs := ([] : List Op18)) (inner := []) (ok := fun _ => True) (okp := fun _ => True) ?hr ?hp (fun _ hk => hk) trivial (Below.refl _ _) (Nat.le_refl _) zq30 ?_; (case hd => rfl); (case hg => rfl); (case hr => first | (go_simp; done) | (go_simp; rfl)); (case hp => exact (Reps.none _ _)); intro v27 wa ho hb hg_ hnew_; have HOA := Lib.hid ho; have HBA := Lib.hid hb; clear ho hb hg_ hnew_)
    | ((with_reducible refine gate_dst (N := 34) rfl ?_); refine Kd.R_append_rows kOp (w0 := wu) wu.heap.size rfl (.tmp 27) (.tmp 33) tX tO (.agg #[.int .i64 0, .int .i64 0, .string ⟨#[]⟩]) 32 rfl huX info68 rfl zq34 zq4 v27 [] sf _ _ _ (fun _ => True) (fun _ => False) rfl rfl HOA.out (HRX.out _ HBA.out) (fun _ _ h => h) (fun _ h => h.elim) (fun _ _ => trivial) HBA.out HBA.out.size ?aL ?_; (case aL => have := HSL.out; rw [List.length_nil]; omega); intro v34 wb ho hb hg_ hnew_; rw [List.nil_append] at ho; obtain ⟨A34, c34, rfl⟩ := Kd.R_slice ho; have HOB := Lib.hid (Kd.R_reads' ho); have HBB := Lib.hid hb; clear ho hb hg_ hnew_)
    | ((with_reducible refine gate_dst (N := 35) rfl ?_); refine Kd.R_lit (kHd tO kOp wb) (w0 := wb) wb.heap.size tX ?hg (N := 35) ?hd (xs := [sf]) (inner := [.slice A34 sf.length c34]) (ok := fun _ => True) (okp := fun _ => True) ?hr ?hp (fun _ hk => hk) trivial (Below.refl _ _) (Nat.le_refl _) zq30 ?_; (case hd => rfl); (case hg => rfl); (case hr => first | (go_simp; done) | (go_simp; rfl)); (case hp => exact (Reps.one ⟨A34, c34, rfl, HOB.out.2.1, HOB.out.2.2⟩ (Reps.none _ _))); intro v35 wc ho hb hg_ hnew_; have HOC := Lib.hid ho; have HBC := Lib.hid hb; clear ho hb hg_ hnew_)
    | ((with_reducible refine gate_dst (N := 37) rfl ?_); refine Kd.R_append_rows (kHd tO kOp wb) (w0 := wb) wb.heap.size rfl (.tmp 35) (.tmp 36) tXs tX (.slice none 0 0) 24 rfl huXs info24 rfl Nat.one_pos zq4 v35 [sf] outs _ _ _ (fun _ => True) (fun _ => False) rfl rfl HOC.out ?aR (fun _ _ h => h) (fun _ h => h.elim) (fun _ _ => trivial) HBC.out HBC.out.size ?aL ?_; (case aR => exact (Kd.R_reads' (Kd.R_below (kHd_up (HBU.out.trans (HBB.out.mono HBU.out.size)) HO.out) ((HBU.out.trans (HBB.out.mono HBU.out.size)).trans (HBC.out.mono (Nat.le_trans HBU.out.size HBB.out.size))))).2.2); (case aL => have := HOL.out; rw [List.length_singleton]; omega); intro v37 wd ho hb hg_ hnew_; have HOD := Lib.hid ho; have HBD := Lib.hid hb; clear ho hb hg_ hnew_))
   obtain ⟨A9, c9, rfl⟩ := Kd.R_slice HOD.out; have hw3 : wrap64 ((j : Int) + 1) = ((K0.length - ks'.length : Nat) : Int) := by have h1 := HJ.out; have h2 := HKL.out; have h3 := HK2.out; unfold wrap64; omega
   have HBX := Lib.hid (HB.out.trans ((HBU.out.trans ((HBB.out.trans (HBD.out.mono HBB.out.size)).mono HBU.out.size)).mono HB.out.size)); have HSZ := Lib.hid (Nat.le_trans HB.out.size (Nat.le_trans HBU.out.size HBB.out.size)); go_roundw
   case rel => exact ⟨.slice A9 ([sf] ++ outs).length c9, .slice A4 p.length c4, .int .i64 (wrap64 ((j : Int) + 1)), ⟨ks', by rw [hw3], [sf] ++ outs, A9, c9, rfl, A4, c4, by rw [HPP.out], by have := HKL.out; omega, ⟨Kd.R_lower (kHd_up HBD.out HOD.out) HSZ.out⟩, ⟨by rw [HPP.out]; exact HRT.out⟩, ⟨by rw [HPP.out]; have := HRL.out; have := HC4.out; omega⟩, ⟨by rw [HPP.out]; have := HRL.out; have := HN4.out; omega⟩, ⟨HBX.out⟩, ⟨by rw [HEQ.out, HKS.out, List.map_append, List.append_assoc, ← HSF.out]; rfl⟩, ⟨fun z hz => HKO.out z (by rw [HKS.out]; simp [hz])⟩⟩, rfl, rfl, rfl⟩
   case measure => rw [hw3]; simp [intOf]; have h1 := HJ.out; have h2 := HKL.out; omega
end Go.Proofs.YtmkgecapkeojaaaGreat.Eg
end
section
namespace Go.Proofs.YtmkgecapkeojaaaGreat.Eg
open Go.Proofs.YtmkgecapkeojaaaGreat Go.Proofs.YtmkgecapkeojaaaGreat.PDa
open Go.RowKit Go.Proofs.YtmkgecapkeojaaaGreatW.PrintWords Go.Proofs.YtmkgecapkeojaaaGreatW.PrintLast Go.Proofs.YtmkgecapkeojaaaGreatW.PrintMore
open Go.Proofs.YtmkgecapkeojaaaGreat.Rw
open Go.Proofs.YtmkgecapkeojaaaGreat.EvP (outV evL evU evB VOk ROk okW takes T good_ev R64)
abbrev Out4 := Int × Int × ByteArray × Int
theorem oneV_L (row : List Vl) (hr : ROk row) (o : Op18) (hw : okW o = true) (ht : takes o.f0 = 0) : oneV o.f0 o.f1 o.f2 row 0 0 ⟨#[]⟩ = outV (evL row o) := by
 unfold oneV
 rcases EvP.takes_0 ht with h | h | h
 ·rw [if_pos h, show evL row o = .ok (.num o.f1) by unfold evL; rw [if_pos h]]; rfl
 ·rw [if_neg zq4, if_pos h, show evL row o = .ok (.txt o.f2) by unfold evL; rw [if_neg zq4, if_pos h]]; rfl
 ·have hg := EvP.okW_get hw h
  rw [if_neg zq4, if_neg zq4, if_pos h]
  by_cases hn : o.f1 < (row.length : Int)
  ·have hm := EvP.rd_mem hg.1 hn
   have hv := (EvP.getTh_ok ((EvP.rowMay_at hr.may).2 _ hm) (hr.r64 _ hm)).2; rw [if_neg zq4, show evL row o = .ok (getTh (rd_T65 row o.f1)) by unfold evL; rw [if_neg zq4, if_neg zq4, if_pos hn]]; generalize rd_T65 row o.f1 = v at *
   show (v.f0, v.f1, v.f2, (0 : Int)) = ((thVal3 (getTh v)).1, (thVal3 (getTh v)).2.1, (thVal3 (getTh v)).2.2, 0)
   rw [hv]
  ·rw [if_pos zq4, show evL row o = .error 3 by unfold evL; rw [if_neg zq4, if_neg zq4, if_neg hn]]; rfl
theorem oneV_U (row : List Vl) (o : Op18) (ht : takes o.f0 = 1) (x : Th) : oneV o.f0 o.f1 o.f2 row (thVal3 x).1 (thVal3 x).2.1 (thVal3 x).2.2 = outV (evU o.f0 x) := by
 unfold oneV
 rcases EvP.takes_1 ht with h | h | h <;> rw [if_neg zq4, if_neg zq4, if_neg zq4, h]
 ·cases x with
  | num a => exact EvP.outV_num _
  | txt a => rfl
 ·cases x <;> rfl
 ·cases x <;> rfl
def thV (x : Th) : Vl := ⟨(thVal3 x).1, (thVal3 x).2.1, (thVal3 x).2.2⟩
theorem bx1 (w : World) (x0 x1 x2 : Value) (t : TypeId) : Bx w.heap.size (w.alloc (.cells #[x0, x1, x2] t)) x0 x1 x2 := by
 refine ⟨?_, ?_, ?_, ?_, ?_, ?_, ?_⟩
 all_goals first | (simp [go_sem]; done) | (simp; omega)
def goV (fin : List Th → Out4) : List (Except Int Th) → List Th → Out4
 | [], vs => fin vs
 | .error e :: _, _ => outV (.error e)
 | .ok v :: rs, vs => goV fin rs (vs ++ [v])
def goS (fin : List Th → Out4) (rs : List (Except Int Th)) (vs : List Th) : Except Int Th → Out4
 | .error e => outV (.error e)
 | .ok v => goV fin rs (vs ++ [v])
theorem goV_cons (fin : List Th → Out4) (rs : List (Except Int Th)) (vs : List Th) (r : Except Int Th) : goV fin (r :: rs) vs = goS fin rs vs r := by cases r <;> rfl
abbrev OfIs (A1 : Option Addr) (c1 : Nat) (row : List Vl) (W : World) (x : List Op18) (r : Out4) : Prop :=
 ∀ (A0 : Option Addr) (c0 : Nat) (w : World), Kd.C kOp w A0 x.length x → x.length ≤ c0 → Below W.heap.size W w →
  Calls Tryz.prog 131 #[.slice A0 x.length c0, .slice A1 row.length c1] w fun e w' => OutV r e ∧ Below w.heap.size w w'
abbrev TwoIs (c : Int) (a b : Th) (r : Out4) : Prop := ∀ w : World, Calls Tryz.prog 158 #[.int .i64 c, .agg #[.int .i64 (thV a).f0, .int .i64 (thV a).f1, .string (thV a).f2], .agg #[.int .i64 (thV b).f0, .int .i64 (thV b).f1, .string (thV b).f2]] w fun e w' => OutV r e ∧ Below w.heap.size w w'
def hof.T12 : Bool × List (List Nat × List Nat) := (true, [([], []), ([0], [0]), ([], []), ([2], [2]), ([3], [3]), ([], []), ([5], [5]), ([6], [6]), ([1, 4, 7], [1, 4, 7]), ([8], [8]), ([8], [8]), ([9, 8, 0, 1, 2, 3, 4, 5, 6, 7, 8, 9, 10], [9]), ([10, 11, 0, 1, 2, 3, 4, 5, 6, 7, 8, 9, 10, 11], [10])])
def hof.B12 : List Nat := [0, 1, 0, 4, 12, 0, 32, 96, 255, 511, 511, 2047, 4095]
theorem hof.tab12 : rtab .any (opsOf Tryz.f131 12) = hof.T12 := by kernel_rfl
theorem hof.bits12 : waitsOk hof.T12.2 hof.B12 = true := by kernel_rfl
theorem of_walk (A1 : Option Addr) (c1 : Nat) (row : List Vl) (W0 : World) (hrow : Kd.C kV W0 A1 row.length row) (hc1 : row.length ≤ c1) (q : List Op18) (o : Op18) (ps : List (List Op18)) (rs : List (Except Int Th)) (fin : List Th → Out4)
  (hl : (q ++ [o]).length ≤ 64) (hps : ps.length ≤ 2) (hrs : rs.length = ps.length)
  (PC : ∀ (A0 : Option Addr) (c0 : Nat) (w : World), Kd.C kOp w A0 (q ++ [o]).length (q ++ [o]) → (q ++ [o]).length ≤ c0 → Calls Tryz.prog 157 #[.slice A0 (q ++ [o]).length c0] w fun e w' => ∃ A c, e = .returned (.slice A ps.length c) ∧ Kd.C (Kd.slice 68 kOp) w' A ps.length ps ∧ Below w.heap.size w w')
  (IH : ∀ (i : Nat) (p : List Op18) (r : Except Int Th), ps[i]? = some p → rs[i]? = some r → OfIs A1 c1 row W0 p (outV r) ∧ EvP.Good r)
  (F2 : ∀ a b, VOk a → VOk b → ps.length = 2 → TwoIs o.f0 a b (fin [a, b])) (F1 : ∀ a, VOk a → ps.length = 1 → ∀ w, Below W0.heap.size W0 w → oneCalls o.f0 o.f1 o.f2 A1 c1 row (thV a).f0 (thV a).f1 (thV a).f2 w (fin [a])) (F0 : ps.length = 0 → ∀ w, Below W0.heap.size W0 w → oneCalls o.f0 o.f1 o.f2 A1 c1 row 0 0 ⟨#[]⟩ w (fin [])) :
  OfIs A1 c1 row W0 (q ++ [o]) (goV fin rs []) := by
 intro A0 c0 w hx hc0 hW; have huV := Tryz.underlying38; obtain ⟨x, hxq⟩ : ∃ x, q ++ [o] = x := ⟨_, rfl⟩
 rw [hxq] at hx hc0 PC hl ⊢; have hxl : x.length = q.length + 1 := by rw [← hxq]; simp
 have hxo : x[q.length]? = some o := by rw [← hxq]; simp
 have HX := Lib.hid hx; have HRW := Lib.hid hrow; have HC1 := Lib.hid hc1; have HW := Lib.hid hW; have PX := Lib.hid (fun w1 h => PC A0 c0 w1 h hc0); have HIH := Lib.hid IH; have HRS := Lib.hid hrs; have H2 := Lib.hid F2; have H1 := Lib.hid F1; have H0 := Lib.hid F0; have HXO := Lib.hid hxo; have HXL := Lib.hid hxl; have HL := Lib.hid hl; clear hx hrow hc1 hW PC IH hrs F2 F1 F0 hxq hxo hxl hl; go_enter Tryz.func131, Tryz.ntmps131
 go_wp2_with (go_at_call 157; refine hold3 ?_)
 refine ⟨?_⟩; obtain ⟨wA, hwA⟩ : ∃ x, x = w.alloc (.cells #[.int .i64 0, .int .i64 0, .string ⟨#[]⟩] 65) := ⟨_, rfl⟩
 have HBA := Lib.hid (show Below w.heap.size w wA by rw [hwA]; exact below_alloc (Below.refl _ _) _); have BA := Lib.hid (show Bx w.heap.size wA (.int .i64 0) (.int .i64 0) (.string ⟨#[]⟩) by rw [hwA]; exact bx1 _ _ _ _ _); rw [← hwA]; clear hwA; refine (PX.out wA (Kd.C_below HX.out HBA.out)).mono ?_; rintro e w1 ⟨Ap, cp, rfl, hps1, hb1⟩; have HPS := Lib.hid hps1; have BR := Lib.hid (BA.out.below hb1); have HB1 := Lib.hid (HBA.out.trans (hb1.mono HBA.out.size)); clear hps1 hb1 BA HBA PX
 go_wp2_with (first | ((with_reducible refine gate_dst (N := 15) rfl ?_); refine Kd.R_lit kV _ tV ?hg (N := 15) ?hd (xs := ([] : List Vl)) (inner := []) (ok := fun _ => True) (okp := fun _ => True) ?hr ?hp (fun _ hk => hk) trivial (Below.refl _ _) (Nat.le_refl _) zq30 ?_; (case hd => rfl); (case hg => rfl); (case hr => first | (go_simp; done) | (go_simp; rfl)); (case hp => exact (Reps.none _ _)); intro v7 w2 ho2 hb2 hg_ hnew_; have HO2 := Lib.hid ho2; have HB2 := Lib.hid hb2; clear hg_ hnew_ hb2 ho2))
 go_loopw [7, 8] (fun v7 v8 wr => ∃ (i : Nat) (vs : List Th) (A7 : Option Addr) (c7 : Nat), i ≤ ps.length ∧ v8 = .int .i64 (i : Int) ∧ v7 = .slice A7 vs.length c7 ∧ Aside0 (Kd.R kV tV wr w1.heap.size (fun _ => True) (.slice A7 vs.length c7) (vs.map thV)) ∧ Aside0 (Below w1.heap.size w1 wr) ∧ Aside0 (vs.length = i) ∧ Aside0 (∀ v ∈ vs, VOk v) ∧ Aside0 (goV fin rs [] = goV fin (rs.drop i) vs)) (fun v7 v8 wr => ps.length - (intOf v8).toNat)
 case atStart =>
  obtain ⟨A7, c7, rfl⟩ := Kd.R_slice HO2.out; exact ⟨0, [], A7, c7, Nat.zero_le _, rfl, rfl, ⟨HO2.out⟩, ⟨HB2.out⟩, ⟨rfl⟩, ⟨by simp⟩, ⟨by rw [List.drop_zero]⟩⟩
 case round =>
  clear HO2 HB2; obtain ⟨i, vs, A7, c7, hi, rfl, rfl, HO, HB, HN, HVS, HEQ⟩ := hrel; have HBW := Lib.hid (HB1.out.trans (HB.out.mono HB1.out.size))
  by_cases c : i < ps.length
  ·obtain ⟨p, hp⟩ : ∃ p, ps[i] = p := ⟨_, rfl⟩
   obtain ⟨ad, Ax, cx, e1, x0, xl, xC⟩ := at_L7 (Kd.C_below HPS.out HB.out) (i : Int) zq4 zq4; have hrd : rd_L7 ps (i : Int) = p := by
    unfold rd_L7; rw [Int.toNat_natCast, List.getD_eq_getElem?_getD, List.getElem?_eq_getElem c]; exact hp
   rw [Int.toNat_natCast, hrd] at x0; rw [hrd] at xl xC; cases e1; have hri : i < rs.length := by rw [HRS.out]; exact c
   obtain ⟨rp, hrp⟩ : ∃ z, rs[i] = z := ⟨_, rfl⟩
   obtain ⟨hof, hgd⟩ := HIH.out i p rp (by rw [List.getElem?_eq_getElem c, hp]) (by rw [List.getElem?_eq_getElem hri, hrp]); have OC := Lib.hid (hof Ax cx wr xC xl (HW.out.trans (HBW.out.mono HW.out.size))); have HST := Lib.hid (show goV fin rs [] = goS fin (rs.drop (i + 1)) vs rp by rw [HEQ.out, List.drop_eq_getElem_cons hri, hrp, goV_cons]); have pI : (0 ≤ (i : Int)) = True := eq_true zq4; have qI : ((i : Int) < (ps.length : Int)) = True := eq_true zq4; clear xl xC hof hrd hp hrp hri; cases rp with
   | error er =>
    have hne : (er != 0) = true := bne_iff_ne.mpr hgd; clear hgd
    go_wp2_with (go_at_call 131; refine hold3 ?_)
    refine ⟨?_⟩; refine OC.out.mono ?_; rintro e w3 ⟨he, hb3⟩; obtain rfl : e = .returned (.tuple #[.agg #[.int .i64 0, .int .i64 0, .string ⟨#[]⟩], .int .i64 er]) := he; obtain ⟨pr0, pr1, pr2, qr0, qr1, qr2, prl⟩ := (BR.out.below HB.out).below hb3; have HB3 := Lib.hid (HBW.out.trans (hb3.mono HBW.out.size)); clear hb3 OC; go_wp2; exact bodyPost_ret (v := .tuple #[.agg #[.int .i64 0, .int .i64 0, .string ⟨#[]⟩], .int .i64 er]) (by simp [results, Tryz.results131, go_sem, *]) rfl ⟨by rw [HST.out]; rfl, below_alloc (below_set3 HB3.out _ (Nat.le_refl _) _ _ _) _⟩
   | ok v =>
    have HGD := Lib.hid (show VOk v from hgd); clear hgd
    go_wp2_with (go_at_call 131; refine hold3 ?_)
    refine ⟨?_⟩; refine OC.out.mono ?_; rintro e w3 ⟨he, hb3⟩; obtain rfl : e = .returned (.tuple #[.agg #[.int .i64 (thV v).f0, .int .i64 (thV v).f1, .string (thV v).f2], .int .i64 0]) := he; have HB3 := Lib.hid (HB.out.trans (hb3.mono HB.out.size)); have HO3 := Lib.hid (Kd.R_below HO.out hb3); have HLV := Lib.hid (show (vs.map thV).length ≤ 2 by rw [List.length_map, HN.out]; omega); clear hb3 OC HO
    go_wp2_with (((with_reducible refine gate_dst (N := 38) rfl ?_); at_builtin; refine Kd.R_append kV (w0 := w1) w1.heap.size rfl (.tmp 35) (.tmp 37) 38 tV (.agg #[(.int .i64 0), (.int .i64 0), (.string ⟨#[]⟩)]) 32 rfl huV info65 rfl zq34 zq4 (.slice A7 vs.length c7) (vs.map thV) (thV v) [.int .i64 (thV v).f0, .int .i64 (thV v).f1, .string (thV v).f2] (fun _ => True) (fun _ => False) rfl (by show Value.slice (some ⟨w3.heap.size + 1, 0, none⟩) 1 1 = _; rw [World.size_alloc]) ?aP (fun _ h => h.elim) (fun _ _ => trivial) ?aO ?aB ?aS ?aL ?_; (case aP => exact k65_mkM _ _ _ (thV v)); (case aO => exact Kd.R_alloc HO3.out _); (case aB => exact below_alloc HB3.out _); (case aS => rw [World.size_alloc]; have := HB3.out.size; omega); (case aL => have := HLV.out; omega); intro v38 w4 ho hb hg_ hnew_; have HO4 := Lib.hid ho; have HB4 := Lib.hid hb; clear ho hb hg_ hnew_))
    rw [show vs.map thV ++ [thV v] = (vs ++ [v]).map thV by simp] at HO4; obtain ⟨A8, c8, hv8⟩ := Kd.R_slice HO4.out; rw [List.length_map] at hv8; subst hv8; go_roundw
    case rel => exact ⟨i + 1, vs ++ [v], A8, c8, by omega, by go_num, rfl, ⟨HO4.out⟩, ⟨HB4.out⟩, ⟨by rw [List.length_append, HN.out]; rfl⟩, ⟨fun x hx => (List.mem_append.1 hx).elim (HVS.out x) (fun h => by rw [List.mem_singleton] at h; rw [h]; exact HGD.out)⟩, ⟨HST.out⟩⟩
    case measure => simp [intOf]; omega
  ·obtain rfl : i = ps.length := by omega
   rw [← HRS.out, List.drop_length, goV] at HEQ; have hl64 := HL.out; have hxl := HXL.out; obtain ⟨ad, e1, x0, x1, x2⟩ := at_T68 (Kd.C_below HX.out HBW.out) ((q.length : Nat) : Int) zq4 zq4; have hro : rd_T68 x ((q.length : Nat) : Int) = o := by
    unfold rd_T68; rw [Int.toNat_natCast, List.getD_eq_getElem?_getD, HXO.out]; rfl
   rw [Int.toNat_natCast, hro] at x0 x1 x2; cases e1; have hw1 : wrap64 ((x.length : Int) - 1) = ((q.length : Nat) : Int) := by unfold wrap64; omega
   have pK : (0 ≤ ((q.length : Nat) : Int)) = True := eq_true zq4; have qK : (((q.length : Nat) : Int) < (x.length : Int)) = True := eq_true zq4; have BW := Lib.hid (BR.out.below HB.out); clear hxl hl64 hro BR; have hB1 := below_alloc (Below.refl wr.heap.size wr) (.cells #[.int .i64 o.f0, .int .i64 o.f1, .string o.f2] 68); have hB2 := below_alloc hB1 (.cells #[.int .i64 0, .int .i64 0, .string ⟨#[]⟩] tV)
   match vs, HN, HVS, HEQ, HO with
   | [], HN, HVS, HEQ, HO =>
    clear hB1 hB2
    go_wp2_with (go_at_call 159; refine hold3 ?_)
    refine ⟨?_⟩; refine (H0.out HN.out.symm _ (HW.out.trans ((below_alloc (below_alloc HBW.out _) _).mono HW.out.size))).mono ?_; rintro e w3 ⟨he, hb3⟩; obtain rfl : e = .returned (.tuple #[.agg #[.int .i64 (fin []).1, .int .i64 (fin []).2.1, .string (fin []).2.2.1], .int .i64 (fin []).2.2.2]) := he; obtain ⟨pr0, pr1, pr2, qr0, qr1, qr2, prl⟩ := (BW.out.below (below_alloc (below_alloc (Below.refl _ wr) _) _)).below hb3; have HB3 := Lib.hid ((below_alloc (below_alloc HBW.out _) _).trans (hb3.mono (below_alloc (below_alloc HBW.out _) _).size)); clear hb3 BW; go_wp2; rw [HEQ.out]; exact bodyPost_ret (v := .tuple #[.agg #[.int .i64 (fin []).1, .int .i64 (fin []).2.1, .string (fin []).2.2.1], .int .i64 (fin []).2.2.2]) (by simp [results, Tryz.results131, go_sem, *]) rfl ⟨rfl, below_set3 HB3.out _ (Nat.le_refl _) _ _ _⟩
   | [a], HN, HVS, HEQ, HO =>
    obtain ⟨bd, e2, y0, y1, y2⟩ := at_T65 (Kd.R_reads' HO.out).2.2 0 zq34 zq30; cases e2; rw [show bd.add ((0 : Int).toNat * 3) = bd by cases bd; rfl, show rd_T65 ([a].map thV) 0 = thV a from rfl] at y0 y1 y2; replace y0 := pw_cell_below hB2 y0; replace y1 := pw_cell_below hB2 y1; replace y2 := pw_cell_below hB2 y2; clear hB1 hB2
    go_wp2_with (go_at_call 159; refine hold3 ?_)
    refine ⟨?_⟩; refine (H1.out a (HVS.out a zq30) HN.out.symm _ (HW.out.trans ((below_alloc (below_alloc HBW.out _) _).mono HW.out.size))).mono ?_; rintro e w3 ⟨he, hb3⟩; obtain rfl : e = .returned (.tuple #[.agg #[.int .i64 (fin [a]).1, .int .i64 (fin [a]).2.1, .string (fin [a]).2.2.1], .int .i64 (fin [a]).2.2.2]) := he; obtain ⟨pr0, pr1, pr2, qr0, qr1, qr2, prl⟩ := (BW.out.below (below_alloc (below_alloc (Below.refl _ wr) _) _)).below hb3; have HB3 := Lib.hid ((below_alloc (below_alloc HBW.out _) _).trans (hb3.mono (below_alloc (below_alloc HBW.out _) _).size)); clear hb3 BW; go_wp2; rw [HEQ.out]; exact bodyPost_ret (v := .tuple #[.agg #[.int .i64 (fin [a]).1, .int .i64 (fin [a]).2.1, .string (fin [a]).2.2.1], .int .i64 (fin [a]).2.2.2]) (by simp [results, Tryz.results131, go_sem, *]) rfl ⟨rfl, below_set3 HB3.out _ (Nat.le_refl _) _ _ _⟩
   | [a, b], HN, HVS, HEQ, HO =>
    obtain ⟨bd, e2, y0, y1, y2⟩ := at_T65 (Kd.R_reads' HO.out).2.2 0 zq34 zq30; obtain ⟨bd', e2', z0, z1, z2⟩ := at_T65 (Kd.R_reads' HO.out).2.2 1 zq34 zq30; cases e2; cases e2'; rw [show bd.add ((0 : Int).toNat * 3) = bd by cases bd; rfl, show rd_T65 ([a, b].map thV) 0 = thV a from rfl] at y0 y1 y2; rw [show (1 : Int).toNat * 3 = 3 from rfl, show rd_T65 ([a, b].map thV) 1 = thV b from rfl] at z0 z1 z2; clear hB2; have k0 := (bx1 wr (.int .i64 o.f0) (.int .i64 o.f1) (.string o.f2) 68).c0; obtain ⟨wB, hwB⟩ : ∃ x, x = wr.alloc (.cells #[.int .i64 o.f0, .int .i64 o.f1, .string o.f2] 68) := ⟨_, rfl⟩
    rw [← hwB] at hB1 k0; have KX := Lib.hid (fun (W : World) (h : Below wB.heap.size wB W) (k : Addr) (v : Value) (hk : wr.cell? k = some v) => pw_cell_below (hB1.trans (h.mono hB1.size)) hk); have K0 := Lib.hid (fun (W : World) (h : Below wB.heap.size wB W) => pw_cell_below h k0); have YZ := Lib.hid (And.intro (And.intro y0 (And.intro y1 y2)) (And.intro z0 (And.intro z1 z2))); have BWB := Lib.hid (BW.out.below hB1); have HBB := Lib.hid (HBW.out.trans (hB1.mono HBW.out.size)); have TC := Lib.hid (fun w => show Calls Tryz.prog 158 #[.int .i64 o.f0, .agg #[.int .i64 (thV a).f0, .int .i64 (thV a).f1, .string (thV a).f2], .agg #[.int .i64 (thV b).f0, .int .i64 (thV b).f1, .string (thV b).f2]] w fun e w' => e = .returned (.tuple #[.agg #[.int .i64 (fin [a, b]).1, .int .i64 (fin [a, b]).2.1, .string (fin [a, b]).2.2.1], .int .i64 (fin [a, b]).2.2.2]) ∧ Below w.heap.size w w' from H2.out a b (HVS.out a zq30) (HVS.out b zq30) HN.out.symm w); clear y0 y1 y2 z0 z1 z2 k0 hB1 BW; go_wp2; rw [← hwB]; clear hwB; have hbw := below_drew1 (Below.refl wB.heap.size wB); refine start_ (n := 13) (S := fun w' => Below wB.heap.size wB w' ∧ w'.cell? ⟨wr.heap.size, 0, none⟩ = some (.int .i64 o.f0) ∧ w'.cell? bd = some (.int .i64 (thV a).f0) ∧ w'.cell? ⟨bd.block, bd.off + 1, none⟩ = some (.int .i64 (thV a).f1) ∧ w'.cell? ⟨bd.block, bd.off + 2, none⟩ = some (.string (thV a).f2) ∧ w'.cell? ⟨bd.block, bd.off + 3, none⟩ = some (.int .i64 (thV b).f0) ∧ w'.cell? ⟨bd.block, bd.off + 3 + 1, none⟩ = some (.int .i64 (thV b).f1) ∧ w'.cell? ⟨bd.block, bd.off + 3 + 2, none⟩ = some (.string (thV b).f2)) (ds := [11]) #[false, false, false, false, false, false, false, false, false, false, false, false, false] zq17 rfl rfl ⟨hbw, K0.out _ hbw, KX.out _ hbw _ _ YZ.out.1.1, KX.out _ hbw _ _ YZ.out.1.2.1, KX.out _ hbw _ _ YZ.out.1.2.2, KX.out _ hbw _ _ YZ.out.2.1, KX.out _ hbw _ _ YZ.out.2.2.1, KX.out _ hbw _ _ YZ.out.2.2.2⟩ (fun hHeld => ?_); refine with_tabW hof.tab12 hof.bits12 (fun HT_ HW_ => ?_); refine pZ 0 48 ?_; refine pZ 2 50 ?_; refine pZ 3 51 ?_; refine pZ 5 53 ?_; refine pZ 6 54 ?_; refine tZ8 1 49 ?_; refine tZ8 4 52 ?_; refine tZ8 7 55 ?_; refine oZ 8 56 (fun K hK => ?_); refine goes_ Tryz.func158 zq17 rfl #[.int .i64 o.f0, .agg #[.int .i64 (thV a).f0, .int .i64 (thV a).f1, .string (thV a).f2], .agg #[.int .i64 (thV b).f0, .int .i64 (thV b).f1, .string (thV b).f2]] (by rfl) rfl rfl zq67 ?_
    with_reducible refine (TC.out _).mono ?_
    rintro e w5 ⟨rfl, hb5⟩; refine ⟨_, rfl, ?_⟩; have hb6 := hHeld.1.trans (hb5.mono hHeld.1.size); obtain ⟨pr0, pr1, pr2, qr0, qr1, qr2, prl⟩ := BWB.out.below hb6; refine hK.out _ _ ⟨hb6, K0.out _ hb6, KX.out _ hb6 _ _ YZ.out.1.1, KX.out _ hb6 _ _ YZ.out.1.2.1, KX.out _ hb6 _ _ YZ.out.1.2.2, KX.out _ hb6 _ _ YZ.out.2.1, KX.out _ hb6 _ _ YZ.out.2.2.1, KX.out _ hb6 _ _ YZ.out.2.2.2⟩ (fun hHeld => ?_); clear hK K; refine nZ 56 ?_; refine pZ 9 57 ?_; refine pZ 10 58 ?_; refine last_ (i := 11) (N := none) #[true, true, true, true, true, true, true, true, true, true, true, true, false] rfl rfl (one_of HT_.out zq17) zq34 (fun K hK => ?_); refine skip_ (w1 := ?_) (by rfl) rfl ?_ ?_; rotate_left
    ·go_simp
     rfl
    refine hK.out _ _ ?_; clear hK K; refine pZ 12 5 ?_; refine done_ (done_of HT_.out zq17) ?_; go_wp2; rw [HEQ.out]; exact bodyPost_ret (v := .tuple #[.agg #[.int .i64 (fin [a, b]).1, .int .i64 (fin [a, b]).2.1, .string (fin [a, b]).2.2.1], .int .i64 (fin [a, b]).2.2.2]) (by simp [results, Tryz.results131, go_sem, *]) rfl ⟨rfl, below_set3 (HBB.out.trans (hb6.mono HBB.out.size)) _ (Nat.le_refl _) _ _ _⟩
   | a :: b :: c :: _, HN, HVS, HEQ, HO => exact absurd HN.out zq33
theorem r64_0 : R64 0 := by unfold R64; omega
theorem hof_T (A1 : Option Addr) (c1 : Nat) (row : List Vl) (W0 : World) (hrow : Kd.C kV W0 A1 row.length row) (hc1 : row.length ≤ c1) (hr : ROk row) : ∀ t : T, t.ok → (∀ o ∈ t.fl, R64 o.f1) → t.fl.length ≤ 64 → OfIs A1 c1 row W0 t.fl (outV (t.ev row))
 | .l o, h, ho, hl => of_walk A1 c1 row W0 hrow hc1 [] o [] [] (fun _ => outV (evL row o)) hl zq30 rfl (hparts_calls (.l o) h hl) zq30 zq30 zq30 (fun _ w hb => by
   show oneCalls o.f0 o.f1 o.f2 A1 c1 row 0 0 ⟨#[]⟩ w (outV (evL row o))
   rw [← oneV_L row hr o h.1 h.2]; exact hone_calls A1 c1 row o.f0 o.f1 0 0 o.f2 ⟨#[]⟩ w (Kd.C_below hrow hb) (fun h3 => (EvP.okW_get h.1 h3).1) r64_0)
 | .u o t, h, ho, hl => by
  have ho' : ∀ o ∈ t.fl, R64 o.f1 := fun o' h' => ho o' (by simp [T.fl, h'])
  have hl' : t.fl.length ≤ 64 := by simp [T.fl] at hl; omega
  have := of_walk A1 c1 row W0 hrow hc1 t.fl o [t.fl] [t.ev row] (fun vs => match vs with
   | [x] => outV (evU o.f0 x)
   | _ => outV (.error 0)) hl zq30 rfl (hparts_calls (.u o t) h hl) (fun i p r hp hq => by
    cases i with
    | zero => injection hp with hp; injection hq with hq; subst hp hq; exact ⟨hof_T A1 c1 row W0 hrow hc1 hr t h.2.2 ho' hl', good_ev row hr t h.2.2 ho'⟩
    | succ n => simp at hp) zq30 (fun a ha _ w hb => by
   show oneCalls o.f0 o.f1 o.f2 A1 c1 row (thV a).f0 (thV a).f1 (thV a).f2 w (outV (evU o.f0 a))
   rw [← oneV_U row o h.2.1 a]; refine hone_calls A1 c1 row o.f0 o.f1 _ _ o.f2 _ w (Kd.C_below hrow hb) (fun h3 => by rcases EvP.takes_1 h.2.1 with h' | h' | h' <;> omega) ?_; cases a with
   | num n => exact ha
   | txt s => exact r64_0) zq30
  have e : outV ((T.u o t).ev row) = goV (fun vs => match vs with
   | [x] => outV (evU o.f0 x)
   | _ => outV (.error 0)) [t.ev row] [] := by
   rw [T.ev_u]; cases t.ev row <;> rfl
  rw [e]; exact this
 | .b o t s, h, ho, hl => by
  have ho1 : ∀ o ∈ t.fl, R64 o.f1 := fun o' h' => ho o' (by simp [T.fl, h'])
  have ho2 : ∀ o ∈ s.fl, R64 o.f1 := fun o' h' => ho o' (by simp [T.fl, h'])
  have hfl : (T.b o t s).fl = (t.fl ++ s.fl) ++ [o] := by simp [T.fl]
  have hl' : t.fl.length ≤ 64 ∧ s.fl.length ≤ 64 := by simp [T.fl] at hl; omega
  have := of_walk A1 c1 row W0 hrow hc1 (t.fl ++ s.fl) o [t.fl, s.fl] [t.ev row, s.ev row] (fun vs => match vs with
   | [x, y] => outV (evB o.f0 x y)
   | _ => outV (.error 0)) (by rw [← hfl]; exact hl) zq30 rfl (by rw [← hfl]; exact hparts_calls (.b o t s) h hl) (fun i p r hp hq => by
    match i with
    | 0 => injection hp with hp; injection hq with hq; subst hp hq; exact ⟨hof_T A1 c1 row W0 hrow hc1 hr t h.2.2.1 ho1 hl'.1, good_ev row hr t h.2.2.1 ho1⟩
    | 1 => injection hp with hp; injection hq with hq; subst hp hq; exact ⟨hof_T A1 c1 row W0 hrow hc1 hr s h.2.2.2 ho2 hl'.2, good_ev row hr s h.2.2.2 ho2⟩
    | n + 2 => simp at hp) (fun a b ha hb _ w => by
    obtain ⟨k, hk⟩ := (EvP.two_R o.f0 a b ha hb (EvP.takes_2 h.2.1)).get; exact r18_two.calls k o.f0 _ _ _ _ _ _ _ _ _ _ w hk) zq30 zq30
  have e : outV ((T.b o t s).ev row) = goV (fun vs => match vs with
   | [x, y] => outV (evB o.f0 x y)
   | _ => outV (.error 0)) [t.ev row, s.ev row] [] := by
   rw [T.ev_b]; cases t.ev row with
   | error e => rfl
   | ok x => cases s.ev row <;> rfl
  rw [hfl, e]; exact this
end Go.Proofs.YtmkgecapkeojaaaGreat.Eg
end
section
namespace Go.Proofs.YtmkgecapkeojaaaGreat.Eg
open Go.Proofs.YtmkgecapkeojaaaGreat Go.Proofs.YtmkgecapkeojaaaGreat.PDa
open Go.RowKit Go.Proofs.YtmkgecapkeojaaaGreatW.PrintWords Go.Proofs.YtmkgecapkeojaaaGreatW.PrintLast Go.Proofs.YtmkgecapkeojaaaGreatW.PrintMore
open Go.Proofs.YtmkgecapkeojaaaGreat.Rw
open Go.Proofs.YtmkgecapkeojaaaGreat.EvP (evalV XOk)
theorem heval_calls (x : List Op18) (row : List Vl) (h : XOk x row) (A0 A1 : Option Addr) (c0 c1 : Nat) (w : World) (hx : Kd.C kOp w A0 x.length x) (hc0 : x.length ≤ c0) (hrow : Kd.C kV w A1 row.length row) (hc1 : row.length ≤ c1) :
  Calls Tryz.prog 89 #[.slice A0 x.length c0, .slice A1 row.length c1] w fun e w' => OutV (evalV x row) e ∧ Below w.heap.size w w' := by
 obtain ⟨wA, hwA⟩ : ∃ z, z = w.alloc (.cells #[.int .i64 0, .int .i64 0, .string ⟨#[]⟩] tV) := ⟨_, rfl⟩
 have HBA := Lib.hid (show Below w.heap.size w wA by rw [hwA]; exact below_alloc (Below.refl _ _) _); have BA := Lib.hid (show Bx w.heap.size wA (.int .i64 0) (.int .i64 0) (.string ⟨#[]⟩) by rw [hwA]; exact bx1 _ _ _ _ _); obtain ⟨kf, hkf⟩ := (EvP.form_R x).get; obtain ⟨km, hkm⟩ := (EvP.mayR row).get; obtain ⟨f, hf⟩ : ∃ z, EvP.formV x = z := ⟨_, rfl⟩
 obtain ⟨m, hm⟩ : ∃ z, rowMay row = z := ⟨_, rfl⟩
 rw [hf] at hkf; rw [hm] at hkm; have FC := Lib.hid (r17_Form.calls kf A0 c0 x f wA (Kd.C_below hx HBA.out) hc0 hkf); have MC := Lib.hid (fun (W : World) (hb : Below w.heap.size w W) => r06_May.calls km A1 c1 row m W (Kd.C_below hrow hb) hc1 hkm); have OC := Lib.hid (fun (hf0 : f = 0) (hm0 : m = true) (W : World) (hb : Below w.heap.size w W) => show Calls Tryz.prog 131 #[.slice A0 x.length c0, .slice A1 row.length c1] W fun e w' => OutV (evalV x row) e ∧ Below W.heap.size W w' by
  obtain ⟨t, ht, hxt, hl⟩ := EvP.formV_0 (hf.trans hf0); rw [hxt] at hl hf hx hc0 h ⊢; rw [EvP.evalV_T t ht row (hf.trans hf0) (hm.trans hm0)]; exact hof_T A1 c1 row w hrow hc1 ⟨hm.trans hm0, h.row⟩ t ht h.x hl A0 c0 W (Kd.C_below hx hb) hc0 hb)
 have HF := Lib.hid hf; have HM := Lib.hid hm; clear hf hm hkf hkm hx hrow hc0 hc1; go_enter Tryz.func89, Tryz.ntmps89
 go_wp2_with (go_at_call 51; refine hold3 ?_)
 refine ⟨?_⟩; rw [← hwA]; clear hwA; refine FC.out.mono ?_; rintro e w1 ⟨rfl, hb1⟩; have HB1 := Lib.hid (HBA.out.trans (hb1.mono HBA.out.size)); have B1 := Lib.hid (BA.out.below hb1); clear hb1 FC BA HBA
 by_cases h0 : f = 0
 ·subst h0
  go_wp2_with (go_at_call 69; refine hold3 ?_)
  refine ⟨?_⟩; refine (MC.out _ HB1.out).mono ?_; rintro e w2 ⟨rfl, hb2⟩; have HB2 := Lib.hid (HB1.out.trans (hb2.mono HB1.out.size)); have B2 := Lib.hid (B1.out.below hb2); clear hb2 B1 MC; cases m with
  | false =>
   obtain ⟨pr0, pr1, pr2, qr0, qr1, qr2, prl⟩ := B2.out; have HV := Lib.hid (show evalV x row = (0, 0, ⟨#[]⟩, 2) by unfold evalV; rw [if_neg (by rw [HF.out]; decide), if_pos HM.out]); go_wp2; rw [HV.out]; exact bodyPost_ret (v := .tuple #[.agg #[.int .i64 0, .int .i64 0, .string ⟨#[]⟩], .int .i64 2]) (by simp [results, Tryz.results89, go_sem, *]) rfl ⟨rfl, below_set3 HB2.out _ (Nat.le_refl _) _ _ _⟩
  | true =>
   have OC2 := Lib.hid (OC.out zq58 zq58 w2 HB2.out); clear OC
   go_wp2_with (go_at_call 131; refine hold3 ?_)
   refine ⟨?_⟩; refine OC2.out.mono ?_; rintro e w3 ⟨he, hb3⟩; obtain rfl : e = .returned (.tuple #[.agg #[.int .i64 (evalV x row).1, .int .i64 (evalV x row).2.1, .string (evalV x row).2.2.1], .int .i64 (evalV x row).2.2.2]) := he; obtain ⟨pr0, pr1, pr2, qr0, qr1, qr2, prl⟩ := B2.out.below hb3; have HB3 := Lib.hid (HB2.out.trans (hb3.mono HB2.out.size)); clear hb3 OC2 B2; go_wp2; exact bodyPost_ret (v := .tuple #[.agg #[.int .i64 (evalV x row).1, .int .i64 (evalV x row).2.1, .string (evalV x row).2.2.1], .int .i64 (evalV x row).2.2.2]) (by simp [results, Tryz.results89, go_sem, *]) rfl ⟨rfl, below_set3 HB3.out _ (Nat.le_refl _) _ _ _⟩
 ·have hne : (f != 0) = true := bne_iff_ne.mpr h0
  have HV := Lib.hid (show evalV x row = (0, 0, ⟨#[]⟩, f) by unfold evalV; rw [HF.out, if_pos h0]); obtain ⟨pr0, pr1, pr2, qr0, qr1, qr2, prl⟩ := B1.out; clear h0; go_wp2; rw [HV.out]; exact bodyPost_ret (v := .tuple #[.agg #[.int .i64 0, .int .i64 0, .string ⟨#[]⟩], .int .i64 f]) (by simp [results, Tryz.results89, go_sem, *]) rfl ⟨rfl, below_set3 HB1.out _ (Nat.le_refl _) _ _ _⟩
theorem hmade_calls (row : List Vl) (xs : List (List Op18)) (hx : ∀ x ∈ xs, XOk x row) (hl : xs.length ≤ 8) (A0 A1 : Option Addr) (c0 c1 : Nat) (w : World) (hr0 : Kd.C kV w A0 row.length row) (hc0 : row.length ≤ c0) (hr1 : Kd.C (Kd.slice tO kOp) w A1 xs.length xs) :
  Calls Tryz.prog 57 #[.slice A0 row.length c0, .slice A1 xs.length c1] w fun e w' => ∃ v, e = .returned (.tuple #[v, .int .i64 (projR evalV row [] xs).2]) ∧ Kd.R kV tV w' w.heap.size (fun _ => True) v (projR evalV row [] xs).1 ∧ Below w.heap.size w w' := by
 have huV := Tryz.underlying39; have HX := Lib.hid hx; have HR := Lib.hid hr0; have HC := Lib.hid hc0; have HXS := Lib.hid hr1; have HL := Lib.hid hl; clear hx hr0 hc0 hr1 hl; go_enter Tryz.func57, Tryz.ntmps57
 go_wp2_with (first | ((with_reducible refine gate_dst (N := 10) rfl ?_); refine Kd.R_lit kV _ tV ?hg (N := 10) ?hd (xs := ([] : List Vl)) (inner := []) (ok := fun _ => True) (okp := fun _ => True) ?hr ?hp (fun _ hk => hk) trivial (Below.refl _ _) (Nat.le_refl _) zq30 ?_; (case hd => rfl); (case hg => rfl); (case hr => first | (go_simp; done) | (go_simp; rfl)); (case hp => exact (Reps.none _ _)); intro v6 w2 ho2 hb2 hg_ hnew_; have HO2 := Lib.hid ho2; have HB2 := Lib.hid hb2; clear hg_ hnew_ hb2 ho2))
 go_loopw [6, 7] (fun v6 v7 wr => ∃ (i : Nat) (out : List Vl) (A6 : Option Addr) (c6 : Nat), i ≤ xs.length ∧ v7 = .int .i64 (i : Int) ∧ v6 = .slice A6 out.length c6 ∧ Aside0 (Kd.R kV tV wr w.heap.size (fun _ => True) (.slice A6 out.length c6) out) ∧ Aside0 (Below w.heap.size w wr) ∧ Aside0 (out.length = i) ∧ Aside0 (projR evalV row [] xs = projR evalV row out (xs.drop i))) (fun v6 v7 wr => xs.length - (intOf v7).toNat)
 case atStart =>
  obtain ⟨A6, c6, rfl⟩ := Kd.R_slice HO2.out; exact ⟨0, [], A6, c6, Nat.zero_le _, rfl, rfl, ⟨HO2.out⟩, ⟨HB2.out⟩, ⟨rfl⟩, ⟨by rw [List.drop_zero]⟩⟩
 case round =>
  clear HO2 HB2; obtain ⟨i, out, A6, c6, hi, rfl, rfl, HO, HB, HN, HEQ⟩ := hrel; have h8 := HL.out
  by_cases c : i < xs.length
  ·obtain ⟨p, hp⟩ : ∃ p, xs[i] = p := ⟨_, rfl⟩
   obtain ⟨ad, Ax, cx, e1, x0, xl, xC⟩ := at_L7 (Kd.C_below HXS.out HB.out) (i : Int) zq4 zq4; have hrd : rd_L7 xs (i : Int) = p := by
    unfold rd_L7; rw [Int.toNat_natCast, List.getD_eq_getElem?_getD, List.getElem?_eq_getElem c]; exact hp
   rw [Int.toNat_natCast, hrd] at x0; rw [hrd] at xl xC; cases e1; have EC := Lib.hid (heval_calls p row (HX.out p (by rw [← hp]; exact List.getElem_mem c)) Ax A0 cx c0 wr xC xl (Kd.C_below HR.out HB.out) HC.out); have HST := Lib.hid (show projR evalV row [] xs = if (evalV p row).2.2.2 ≠ 0 then ([], (evalV p row).2.2.2) else projR evalV row (out ++ [⟨(evalV p row).1, (evalV p row).2.1, (evalV p row).2.2.1⟩]) (xs.drop (i + 1)) by rw [HEQ.out, projR_drop evalV row out xs i c, hp]); obtain ⟨⟨k, n, s, er⟩, hv⟩ : ∃ z, evalV p row = z := ⟨_, rfl⟩
   rw [hv] at EC HST; have pI : (0 ≤ (i : Int)) = True := eq_true zq4; have qI : ((i : Int) < (xs.length : Int)) = True := eq_true zq4; clear xl xC hrd hp hv h8
   go_wp2_with (go_at_call 89; refine hold3 ?_)
   refine ⟨?_⟩; refine EC.out.mono ?_; rintro e w3 ⟨he, hb3⟩; obtain rfl : e = .returned (.tuple #[.agg #[.int .i64 k, .int .i64 n, .string s], .int .i64 er]) := he; have HB3 := Lib.hid (HB.out.trans (hb3.mono HB.out.size)); have HO3 := Lib.hid (Kd.R_below HO.out hb3); clear hb3 EC x0 HO
   by_cases h0 : er = 0
   ·subst h0
    have HEN := Lib.hid (show projR evalV row [] xs = projR evalV row (out ++ [⟨k, n, s⟩]) (xs.drop (i + 1)) by rw [HST.out, if_neg zq30]); clear HST
    go_wp2_with (((with_reducible refine gate_dst (N := 32) rfl ?_); at_builtin; refine Kd.R_append kV (w0 := w) w.heap.size rfl (.tmp 29) (.tmp 31) 39 tV (.agg #[(.int .i64 0), (.int .i64 0), (.string ⟨#[]⟩)]) 32 rfl huV info65 rfl zq34 zq4 (.slice A6 out.length c6) out ⟨k, n, s⟩ [.int .i64 k, .int .i64 n, .string s] (fun _ => True) (fun _ => False) rfl (by show Value.slice (some ⟨w3.heap.size + 1, 0, none⟩) 1 1 = _; rw [World.size_alloc]) ?aP (fun _ h => h.elim) (fun _ _ => trivial) ?aO ?aB ?aS ?aL ?_; (case aP => exact k65_mkM _ _ _ ⟨k, n, s⟩); (case aO => exact Kd.R_alloc HO3.out _); (case aB => exact below_alloc HB3.out _); (case aS => rw [World.size_alloc]; have := HB3.out.size; omega); (case aL => have := HN.out; have := HL.out; omega); intro v32 w4 ho hb hg_ hnew_; have HO4 := Lib.hid ho; have HB4 := Lib.hid hb; clear ho hb hg_ hnew_))
    obtain ⟨A8, c8, rfl⟩ := Kd.R_slice HO4.out; have hwr := wrapN i (by have := HL.out; omega); go_roundw
    case rel => exact ⟨i + 1, out ++ [⟨k, n, s⟩], A8, c8, by omega, by rw [hwr], rfl, ⟨HO4.out⟩, ⟨HB4.out⟩, ⟨by rw [List.length_append, HN.out]; rfl⟩, ⟨HEN.out⟩⟩
    case measure => rw [hwr]; simp [intOf]; omega
   ·have HV := Lib.hid (show projR evalV row [] xs = ([], er) by rw [HST.out, if_pos h0])
    have hne : (er != 0) = true := bne_iff_ne.mpr h0; clear h0 HST; go_wp2; go_ret2; rw [HV.out]; exact ⟨_, rfl, Kd.R_nil _ _ _ _ _, below_alloc HB3.out _⟩
  ·obtain rfl : i = xs.length := by omega
   have HV := Lib.hid (show projR evalV row [] xs = (out, 0) by rw [HEQ.out, List.drop_length]; rfl); go_wp2; go_ret2; rw [HV.out]; exact ⟨_, rfl, HO.out, HB.out⟩
end Go.Proofs.YtmkgecapkeojaaaGreat.Eg
end
section
namespace Go.Proofs.YtmkgecapkeojaaaGreat.Eg
open Go.Proofs.YtmkgecapkeojaaaGreat Go.Proofs.YtmkgecapkeojaaaGreat.PDa
open Go.RowKit Go.Proofs.YtmkgecapkeojaaaGreatW.PrintWords Go.Proofs.YtmkgecapkeojaaaGreatW.PrintLast Go.Proofs.YtmkgecapkeojaaaGreatW.PrintMore
open Go.Proofs.YtmkgecapkeojaaaGreat.Stp Go.Proofs.YtmkgecapkeojaaaGreat.Run Go.Proofs.YtmkgecapkeojaaaGreat.Rw
open Go.Proofs.YtmkgecapkeojaaaGreat.EvP (evalV formV)
theorem madeL_drop (mk : List Vl → List Vl × Int) (out l : List EdP) (i : Nat) (h : i < l.length) : madeL mk out (l.drop i) = if (mk l[i].f0).2 ≠ 0 then ([], (mk l[i].f0).2) else madeL mk (out ++ [⟨(mk l[i].f0).1, l[i].f1, l[i].f2⟩]) (l.drop (i + 1)) := by
 rw [List.drop_eq_getElem_cons h, madeL]
def rpro.T18 : Bool × List (List Nat × List Nat) := (true, [([], []), ([], []), ([], []), ([], []), ([2, 3], [2, 3]), ([4], [4]), ([5], [5]), ([], []), ([], []), ([7, 8], [7, 8]), ([9], [9]), ([10], [10]), ([1, 6, 11], [1, 6, 11]), ([12], [12]), ([0, 13], [0, 13]), ([14, 14, 0, 1, 2, 3, 4, 5, 6, 7, 8, 9, 10, 11, 12, 13, 14], [0, 14])])
def rpro.B18 : List Nat := [0, 0, 0, 0, 12, 28, 60, 0, 0, 384, 896, 1920, 4094, 8190, 16383, 32767]
theorem rpro.tab18 : rtab .any (opsOf Tryz.f22 18) = rpro.T18 := by kernel_rfl
theorem rpro.bits18 : waitsOk rpro.T18.2 rpro.B18 = true := by kernel_rfl
theorem refproj_calls (A0 : Option Addr) (c0 : Nat) (l : List EdP) (A1 : Option Addr) (c1 : Nat) (xs : List (List Op8)) (w : World) (hr0 : Kd.C kE w A0 l.length l) (hc0 : l.length ≤ c0) (hr1 : Kd.C (Kd.slice 68 kO) w A1 xs.length xs) (hc1 : xs.length ≤ c1)
  (hl : l.length ≤ 1000) (hrow : ∀ e ∈ l, e.f0.length ≤ 4398046511104) (hx : ∀ x ∈ xs, EOk x l) :
  Calls Tryz.prog 22 #[.slice A0 l.length c0, .slice A1 xs.length c1] w fun e w' => ∃ v, e = .returned (.tuple #[v, .int .i64 (projD xs l).2]) ∧ Kd.R kE tE w' w.heap.size (fun _ => True) v (projD xs l).1 ∧ Below w.heap.size w w' := by
 have hu := Tryz.underlying41; have hu22 : Tryz.prog.underlying 22 = some (.slice 41) := by kernel_rfl
 have HR := Lib.hid hr0; have HC := Lib.hid hc0; have HR1 := Lib.hid hr1; have HC1 := Lib.hid hc1; have HL := Lib.hid hl; have HX := Lib.hid hx; have MC := Lib.hid (hmay_calls A0 c0 l w hr0 hc0 zq4 hrow); clear hr0 hc0 hr1 hc1 hl hrow hx; obtain ⟨m, hm⟩ : ∃ m, mayE l = m := ⟨_, rfl⟩
 rw [hm] at MC; cases m with
 | false =>
  have HV := Lib.hid (show projD xs l = ([], 2) by unfold projD; rw [if_neg (by rw [hm]; decide)]); clear hm; go_enter Tryz.func22, Tryz.ntmps22
  go_wp2_with (go_at_call 50; refine hold2 ?_)
  refine ⟨?_⟩; refine MC.out.mono ?_; rintro e w1 ⟨rfl, hb1⟩; go_wp2; go_ret2; rw [HV.out]; exact ⟨_, rfl, Kd.R_nil _ _ _ _ _, hb1⟩
 | true =>
  have HM := Lib.hid hm; clear hm; go_enter Tryz.func22, Tryz.ntmps22
  go_wp2_with (go_at_call 50; refine hold2 ?_)
  refine ⟨?_⟩; refine MC.out.mono ?_; rintro e w1 ⟨rfl, hb1⟩; have HB1 := Lib.hid hb1; clear hb1 MC
  by_cases h8 : 8 < xs.length
  ·have b8 : decide ((xs.length : Int) > 8) = true := decide_eq_true zq4
   have HV := Lib.hid (show projD xs l = ([], 6) by unfold projD; rw [if_pos HM.out, if_pos h8]); go_wp2; go_ret2; rw [HV.out]; exact ⟨_, rfl, Kd.R_nil _ _ _ _ _, HB1.out⟩
  ·have b8 : decide ((xs.length : Int) > 8) = false := decide_eq_false zq4
   have H8 := Lib.hid (show xs.length ≤ 8 by omega); clear h8; go_wp2
   go_loopw [6] (fun v6 wr => ∃ (i : Nat), i ≤ xs.length ∧ v6 = .int .i64 (i : Int) ∧ Aside0 (formAll formV xs = formAll formV (xs.drop i)) ∧ Aside0 (Below w.heap.size w wr)) (fun v6 wr => xs.length - (intOf v6).toNat)
   case atStart => exact ⟨0, Nat.zero_le _, rfl, ⟨by rw [List.drop_zero]⟩, ⟨HB1.out⟩⟩
   case round =>
    obtain ⟨i, hi, rfl, HE, HB⟩ := hrel; have h8' := H8.out
    by_cases c : i < xs.length
    ·obtain ⟨X, hX⟩ : ∃ X, xs[i] = X := ⟨_, rfl⟩
     obtain ⟨ad, Ax, cx, e1, x0, x1, x2⟩ := at_L7 (Kd.C_below HR1.out HB.out) (i : Int) zq4 zq4; have hrd : rd_L7 xs (i : Int) = X := by
      unfold rd_L7; rw [Int.toNat_natCast, List.getD_eq_getElem?_getD, List.getElem?_eq_getElem c]; exact hX
     rw [Int.toNat_natCast, hrd] at x0; rw [hrd] at x1 x2; cases e1; have HEN := Lib.hid (show formAll formV xs = if formV X ≠ 0 then formV X else formAll formV (xs.drop (i + 1)) by rw [HE.out, formAll_drop _ _ _ c, hX]); obtain ⟨kf, hkf⟩ := (EvP.form_R X).get; have FC := Lib.hid (r17_Form.calls kf Ax cx X (formV X) wr x2 x1 hkf); clear x1 x2 hrd hkf hX
     go_wp2_with (go_at_call 51; refine hold2 ?_)
     refine ⟨?_⟩; refine FC.out.mono ?_; rintro e w2 ⟨rfl, hb2⟩; have HB2 := Lib.hid (HB.out.trans (hb2.mono HB.out.size)); clear FC hb2; obtain ⟨fe, hfe⟩ : ∃ z, formV X = z := ⟨_, rfl⟩
     rw [hfe] at HEN ⊢
     by_cases ce : fe = 0
     ·subst ce
      have HEN2 := Lib.hid (show formAll formV xs = formAll formV (xs.drop (i + 1)) by rw [HEN.out, if_neg zq30]); have hwr := wrapN i zq4; clear HEN; go_wp2; go_roundw
      case rel => exact ⟨i + 1, by omega, by go_num, ⟨HEN2.out⟩, ⟨HB2.out⟩⟩
      case measure => simp [intOf]; omega
     ·have HV := Lib.hid (show projD xs l = ([], fe) by unfold projD; rw [if_pos HM.out, if_neg zq4, HEN.out, if_pos ce, if_pos ce])
      have b1 : (fe == 0) = false := beq_eq_false_iff_ne.mpr ce; have b2 : (fe != 0) = true := bne_iff_ne.mpr ce; clear HEN; go_wp2; go_ret2; rw [HV.out]; exact ⟨_, rfl, Kd.R_nil _ _ _ _ _, HB2.out⟩
    ·obtain rfl : i = xs.length := by omega
     have HF := Lib.hid (show formAll formV xs = 0 by rw [HE.out, List.drop_length]; rfl); have HBa := Lib.hid HB.out; clear HE HB HB1; go_wp2; obtain ⟨mk, hmk⟩ : ∃ f : List Vl → List Vl × Int, f = fun row => projR evalV row [] xs := ⟨_, rfl⟩
     have HMK := Lib.hid (show ∀ row, mk row = projR evalV row [] xs by rw [hmk]; intro row; rfl); have HPD := Lib.hid (show projD xs l = if (madeL mk [] l).2 ≠ 0 then ([], (madeL mk [] l).2) else normV (madeL mk [] l).1 by
      unfold projD; rw [if_pos HM.out, if_neg (by have := H8.out; omega), if_neg (by rw [HF.out]; decide), hmk])
     clear hmk; have hbC := below_alloc (Below.refl _ wr) (.cells #[] tE (0, 0)); obtain ⟨wC, hwC⟩ : ∃ x, x = wr.alloc (.cells #[] tE (0, 0)) := ⟨_, rfl⟩
     have hoC : Kd.R kE tE wC wr.heap.size (fun _ => True) (.slice (some ⟨wr.heap.size, 0, none⟩) 0 0) [] := ⟨fun _ _ => trivial, [], ⟨rfl, .inr ⟨wr.heap.size, 0, #[], rfl, Nat.le_refl _, by rw [hwC]; exact blk_new wr _, Nat.le_refl _, Nat.zero_le _, rfl, rfl⟩⟩, Reps.none _ _⟩
     rw [← hwC] at hbC ⊢; clear hwC; have HOC := Lib.hid (Kd.R_lower hoC HBa.out.size); have HBC := Lib.hid (HBa.out.trans (hbC.mono HBa.out.size)); clear hoC hbC
     go_loopw [8, 9] (fun v8 v9 wr => ∃ (i : Nat) (out : List EdP) (A8 : Option Addr) (c8 : Nat), i ≤ l.length ∧ v9 = .int .i64 (i : Int) ∧ v8 = .slice A8 out.length c8 ∧ Aside0 (Kd.R kE tE wr w.heap.size (fun _ => True) (.slice A8 out.length c8) out) ∧ Aside0 (Below w.heap.size w wr) ∧
      Aside0 (madeL mk [] l = madeL mk out (l.drop i)) ∧ Aside0 (out.length ≤ i)) (fun v8 v9 wr => l.length - (intOf v9).toNat)
     case atStart => exact ⟨0, [], _, _, Nat.zero_le _, rfl, rfl, ⟨HOC.out⟩, ⟨HBC.out⟩, ⟨by rw [List.drop_zero]⟩, ⟨Nat.le_refl _⟩⟩
     case round =>
      clear HBa HOC HBC; obtain ⟨i, out, A8, c8, hi, rfl, rfl, HO, HB, HEQ, HLN⟩ := hrel; have hll := HL.out
      by_cases c : i < l.length
      ·obtain ⟨X, hX⟩ : ∃ X, l[i] = X := ⟨_, rfl⟩
       obtain ⟨ad, Ax, cx, e1, x0, x1, x2, x3, x4⟩ := at_T41 (Kd.C_below HR.out HB.out) (i : Int) zq4 zq4; rw [Int.toNat_natCast, rdE l i c, hX] at x0 x1 x2; rw [rdE l i c, hX] at x3 x4; cases e1; have HEN := Lib.hid (show madeL mk [] l = if (mk X.f0).2 ≠ 0 then ([], (mk X.f0).2) else madeL mk (out ++ [⟨(mk X.f0).1, X.f1, X.f2⟩]) (l.drop (i + 1)) by rw [HEQ.out, madeL_drop mk out l i c, hX]); have DM := Lib.hid (hmade_calls X.f0 xs (fun x hx' => HX.out x hx' X (by rw [← hX]; exact List.getElem_mem c)) H8.out Ax A1 cx c1 wr x4 x3 (Kd.C_below HR1.out HB.out)); rw [← HMK.out] at DM; obtain ⟨mr, hmr⟩ : ∃ z, (mk X.f0).1 = z := ⟨_, rfl⟩
       obtain ⟨me, hme⟩ : ∃ z, (mk X.f0).2 = z := ⟨_, rfl⟩
       rw [hmr, hme] at HEN; rw [hmr, hme] at DM; have DC := DM; clear DM; have HX1 := Lib.hid x1; have HX2 := Lib.hid x2; have pI : (0 ≤ (i : Int)) = True := eq_true zq4; have qI : ((i : Int) < (l.length : Int)) = True := eq_true zq4; clear x1 x2 x3 x4 hmr hme hX
       go_wp2_with (go_at_call 57; refine hold2 ?_)
       refine ⟨?_⟩; refine DC.out.mono ?_; rintro e w2 ⟨vm, rfl, hRm, hb2⟩; obtain ⟨Am, cm, rfl⟩ := Kd.R_slice hRm; have HRM := Lib.hid hRm; have HB2 := Lib.hid hb2; clear DC hRm hb2 x0
       by_cases ce : me = 0
       ·subst ce
        have HEN2 := Lib.hid (show madeL mk [] l = madeL mk (out ++ [⟨mr, X.f1, X.f2⟩]) (l.drop (i + 1)) by rw [HEN.out, if_neg zq30]); clear HEN; go_wp2; obtain ⟨wA, hwA⟩ : ∃ x, x = w2 := ⟨_, rfl⟩
        have b1 : wA.drew.cell? ⟨(ad.add (i * 3)).block, (ad.add (i * 3)).off + 1, none⟩ = some (.int .i64 X.f1) := by rw [hwA]; exact pw_cell_below HB2.out HX1.out
        have b2 : wA.drew.cell? ⟨(ad.add (i * 3)).block, (ad.add (i * 3)).off + 2, none⟩ = some (.int .i64 X.f2) := by rw [hwA]; exact pw_cell_below HB2.out HX2.out
        have HBA := Lib.hid (show Below wr.heap.size wr wA.drew by rw [hwA]; exact below_drew1 HB2.out); have HRMA := Lib.hid (show Kd.R kV tV wA.drew wr.heap.size (fun _ => True) (.slice Am mr.length cm) mr by rw [hwA]; exact Kd.R_drew HRM.out); have HOA := Lib.hid (Kd.R_below HO.out HBA.out); have HOW := Lib.hid (fun k (h : (Value.slice A8 out.length c8).ownBlock = some k) => own_ltR HO.out h); rw [← hwA]; clear hwA HB2 HRM HX1 HX2 HO; refine start_ (n := 16) (S := fun w' => w'.cell? ⟨(ad.add (i * 3)).block, (ad.add (i * 3)).off + 1, none⟩ = some (.int .i64 X.f1) ∧ w'.cell? ⟨(ad.add (i * 3)).block, (ad.add (i * 3)).off + 2, none⟩ = some (.int .i64 X.f2)) (ds := [13, 14]) #[false, false, false, false, false, false, false, false, false, false, false, false, false, false, false, false] zq17 rfl rfl ⟨b1, b2⟩ (fun hHeld => ?_); refine with_tabW rpro.tab18 rpro.bits18 (fun HT_ HW_ => ?_); refine pZ 0 52 ?_; refine pZ 1 53 ?_; refine pZ 2 54 ?_; refine pZ 3 55 ?_; refine pZ 4 56 ?_; refine pZ 5 57 ?_; refine pZ 7 59 ?_; refine pZ 8 60 ?_; refine pZ 9 61 ?_; refine pZ 10 62 ?_; refine tZ2 6 58 ?_; refine tZ2 11 63 ?_; refine pZ 12 64 ?_; refine last_ (i := 13) (N := some 65) #[true, true, true, true, true, true, true, true, true, true, true, true, true, true, false, false] rfl rfl (one_of HT_.out zq17) zq34 (fun K hK => ?_); refine value_ (w1 := ?_) (v := ?_) (by rfl) rfl ?_ ?_; rotate_left 2
        ·go_simp
         constructor
         ·rfl
         ·rfl
        refine hK.out _ _ ?_; clear hK K; refine nZ 65 ?_; refine last_ (i := 14) (N := some 66) #[true, true, true, true, true, true, true, true, true, true, true, true, true, true, true, false] rfl rfl (one_of HT_.out zq17) zq34 (fun K hK => ?_); refine Kd.R_append_step kE (w0 := wA.drew) w.heap.size (by rfl) (.tmp 52) (.tmp 65) 22 41 (.agg #[.slice none 0 0, (.int .i64 0), (.int .i64 0)]) 40 rfl hu22 info41 rfl zq34 zq4 (.slice A8 out.length c8) out ⟨mr, X.f1, X.f2⟩ [.slice Am mr.length cm, .int .i64 X.f1, .int .i64 X.f2] (fun _ => True) (fun k => wr.heap.size ≤ k) rfl rfl ?aP ?aK (fun _ _ => trivial) HOA.out (Below.refl _ _) ?aS ?aL ?_
        case aP => exact k41_mkM _ _ _ ⟨mr, X.f1, X.f2⟩ (Kd.R_mono (Kd.R_lower (Kd.R_bound HRMA.out) (by have := HB.out.size; omega)) (fun _ h => h.2.1))
        case aK => exact fun k hk => ⟨trivial, fun e' => by have := (HOW.out k e'.symm).2; omega⟩
        case aS => have h1 := HB.out.size; have h2 := HBA.out.size; omega
        case aL => have := HLN.out; omega
        intro v1 w5 ho hb hg hat; have HO1 := Lib.hid ho; have HBn := Lib.hid hb; clear ho hb hg hat; refine hK.out _ _ ?_; clear hK K; refine nZ 66 ?_; refine pZ 15 8 ?_; refine done_ (done_of HT_.out zq17) ?_; obtain ⟨An, cn, rfl⟩ := Kd.R_slice HO1.out; have HBN := Lib.hid ((HB.out.trans (HBA.out.mono HB.out.size)).trans HBn.out); go_wp2; go_roundw
        case rel => exact ⟨i + 1, out ++ [⟨mr, X.f1, X.f2⟩], _, _, by omega, by go_num, rfl, ⟨HO1.out⟩, ⟨HBN.out⟩, ⟨HEN2.out⟩, ⟨by have := HLN.out; rw [List.length_append]; simp; omega⟩⟩
        case measure => simp [intOf]; omega
       ·have HV := Lib.hid (show projD xs l = ([], me) by rw [HPD.out, HEN.out, if_pos ce, if_pos ce])
        have b1 : (me == 0) = false := beq_eq_false_iff_ne.mpr ce; have b2 : (me != 0) = true := bne_iff_ne.mpr ce; have HBw := Lib.hid (HB.out.trans (HB2.out.mono HB.out.size)); clear HEN; go_wp2; go_ret2; rw [HV.out]; exact ⟨_, rfl, Kd.R_nil _ _ _ _ _, HBw.out⟩
      ·obtain rfl : i = l.length := by omega
       have HV := Lib.hid (show projD xs l = normV out by rw [HPD.out, HEQ.out, List.drop_length, madeL, if_neg zq30]); have NC := Lib.hid (refnorm_calls A8 c8 out wr (Kd.R_reads' HO.out).2.2 (Kd.R_reads' HO.out).2.1 (by have := HLN.out; omega))
       go_wp2_with (go_at_call 58; refine hold2 ?_)
       refine ⟨?_⟩; refine NC.out.mono ?_; rintro e w2 ⟨vn, rfl, hRn, hbn⟩; have HRN := Lib.hid (Kd.R_lower hRn HB.out.size); have HBN := Lib.hid (HB.out.trans (hbn.mono HB.out.size)); clear hRn hbn NC; go_wp2; go_ret2; rw [HV.out]; exact ⟨_, rfl, HRN.out, HBN.out⟩
end Go.Proofs.YtmkgecapkeojaaaGreat.Eg
end
section
namespace Go.Proofs.YtmkgecapkeojaaaGreat.Eg
open Go.Proofs.YtmkgecapkeojaaaGreat Go.Proofs.YtmkgecapkeojaaaGreat.PDa
open Go.RowKit Go.Proofs.YtmkgecapkeojaaaGreatW.PrintWords Go.Proofs.YtmkgecapkeojaaaGreatW.PrintLast Go.Proofs.YtmkgecapkeojaaaGreatW.PrintMore
open Go.Proofs.YtmkgecapkeojaaaGreat.Stp Go.Proofs.YtmkgecapkeojaaaGreat.Rw
theorem mapR_sub (g : List Jp → List Jp × Int) : ∀ (gs : List (List Vl × List Jp)) (out : List EdP), (∀ e ∈ (mapR g out gs).1, e ∈ out ∨ ∃ x ∈ gs, e.f0 = x.1) ∧ (out.length ≤ 4096 → (mapR g out gs).1.length ≤ 4096)
 | [], out => by rw [mapR]; exact ⟨fun e he => .inl he, fun h => h⟩
 | x :: xs, out => by
  rw [mapR]
  split
  ·exact ⟨by simp, by simp⟩
  ·split
   ·exact ⟨by simp, by simp⟩
   ·rename_i c
    obtain ⟨h1, h2⟩ := mapR_sub g xs (putP out x.1 (g x.2).1); refine ⟨fun e he => ?_, fun _ => h2 zq4⟩
    rcases h1 e he with h | ⟨y, hy, h⟩
    ·unfold putP at h
     rw [List.mem_append] at h
     rcases h with h | h
     ·exact .inl h
     ·obtain ⟨j, _, rfl⟩ := List.mem_map.1 h
      exact .inr ⟨x, List.mem_cons_self, rfl⟩
    ·exact .inr ⟨y, List.mem_cons_of_mem _ hy, h⟩
theorem normV_sub (l : List EdP) : (∀ e ∈ (normV l).1, e.f0.length ≤ 8) ∧ (normV l).1.length ≤ 4096 := by
 unfold normV
 split
 ·exact ⟨by simp, by simp⟩
 ·split
  ·exact ⟨by simp, by simp⟩
  ·rename_i h _
   obtain ⟨h1, h2⟩ := mapR_sub normJ (groups l) []; refine ⟨fun e he => ?_, h2 zq30⟩
   rcases h1 e he with h3 | ⟨x, hx, h3⟩
   ·simp at h3
   ·obtain ⟨r, hr, rfl⟩ := List.mem_map.1 hx
    obtain ⟨e', he', e1⟩ := (rowsOf_mem l r).1 hr; have ha : argE e' = false := by
     cases c : argE e' with
     | false => rfl
     | true => exact absurd (List.any_eq_true.2 ⟨e', he', c⟩) h
    have := may_len (argE_parts ha).1; rw [h3]
    show r.length ≤ 8
    rw [← e1]; exact this
theorem projD_sub (xs : List (List Op8)) (l : List EdP) : (∀ e ∈ (projD xs l).1, e.f0.length ≤ 8) ∧ (projD xs l).1.length ≤ 4096 := by
 unfold projD
 repeat' split
 all_goals first | exact normV_sub _ | exact ⟨by simp, by simp⟩
theorem projects_calls (fA : PDd.linear_Filter.f [e1, e2, e3] lxw = some ([e3], 0)) (fB : PDd.linear_Project.f [e1, e2, e3] [pxw] = some ([⟨[⟨1, 7, ⟨#[]⟩⟩], 2, 1⟩], 0))
  (A0 : Option Addr) (c0 : Nat) (l : List EdP) (A1 : Option Addr) (c1 : Nat) (x : List (List Op8)) (w : World) (hr0 : Kd.C kE w A0 l.length l) (hc0 : l.length ≤ c0) (hr1 : Kd.C (Kd.slice 68 kO) w A1 x.length x) (hc1 : x.length ≤ c1) (hl : PDd.okEs l = true) (hx : x.all PDd.okXs = true) :
  Calls Tryz.prog 4 #[.slice A0 l.length c0, .slice A1 x.length c1] w fun e w' => e = .returned (.bool true) ∧ Below w.heap.size w w' := by
 have HR0 := Lib.hid hr0; have HC0 := Lib.hid hc0; have HR1 := Lib.hid hr1; have HC1 := Lib.hid hc1; have HL := Lib.hid hl; have HX := Lib.hid hx; have HFA := Lib.hid fA; have HFB := Lib.hid fB; have FW := Lib.hid (w22_few.calls A0 c0 l (decide ((l.length : Int) ≤ 60)) w hr0 hc0 rfl); clear hr0 hc0 hr1 hc1 hl hx fA fB; go_enter Tryz.func4, Tryz.ntmps4
 go_wp2_with (go_at_call 16; refine hold_intro ?_)
 refine ⟨?_⟩; refine FW.out.mono ?_; rintro e w1 ⟨rfl, hd1⟩; have HB1 := Lib.hid (show Below w.heap.size w w1 from hd1.below); clear hd1 FW
 by_cases hfew : l.length ≤ 60
 case neg =>
  have hf : decide ((l.length : Int) ≤ 60) = false := decide_eq_false zq4; rw [hf]
  go_wp2_with (go_at_call 17; refine hold_intro ?_)
  refine ⟨?_⟩; refine (live_calls w1 HFA.out HFB.out).mono ?_; rintro e w2 ⟨rfl, hb2⟩; have HB2 := Lib.hid (HB1.out.trans (hb2.mono HB1.out.size)); go_wp2; go_ret; exact ⟨rfl, HB2.out⟩
 case pos =>
  have hf : decide ((l.length : Int) ≤ 60) = true := decide_eq_true zq4; rw [hf]; have HFew := Lib.hid hfew; clear hfew hf; have hrow := PDd.okEs_row HL.out; have hEO : ∀ y ∈ x, EOk y l := fun y hy => PDd.okX HL.out (List.all_eq_true.1 HX.out y hy)
  obtain ⟨F, hF⟩ : ∃ F, projD x l = F := ⟨_, rfl⟩
  have hsub := projD_sub x l; rw [hF] at hsub; have RC := Lib.hid (fun (w1 : World) (h : Below w.heap.size w w1) => refproj_calls A0 c0 l A1 c1 x w1 (Kd.C_below HR0.out h) HC0.out (Kd.C_below HR1.out h) HC1.out (by have := HFew.out; omega) hrow hEO); rw [hF] at RC; obtain ⟨G, g⟩ := F; have FC := Lib.hid (PDd.linear_Project.calls A0 c0 l A1 c1 x G g w1 (Kd.C_below HR0.out HB1.out) HC0.out (Kd.C_below HR1.out HB1.out) HC1.out (by unfold PDd.linear_Project.f; rw [HL.out, HX.out, projD_is x l hEO, hF]; rfl)); have HSM := Lib.hid (show G.length ≤ 1000000000 ∧ ∀ e ∈ G, e.f0.length ≤ 4398046511104 from ⟨(by have := hsub.2; simp only at this; omega), (fun e he => by have := hsub.1 e he; omega)⟩); clear hrow hsub hF hEO
  go_wp2_with (go_at_call 21; refine hold_intro ?_)
  refine ⟨?_⟩; refine FC.out.mono ?_; rintro e w2 ⟨va, rfl, hRa, hb2⟩; obtain ⟨Aa, ca, rfl⟩ := Kd.R_slice hRa; have HB2 := Lib.hid (HB1.out.trans (hb2.mono HB1.out.size)); have HRA := Lib.hid hRa; clear hRa hb2 FC
  go_wp2_with (go_at_call 22; refine hold_intro ?_)
  refine ⟨?_⟩; refine (RC.out w2 HB2.out).mono ?_; rintro e w3 ⟨vb, rfl, hNb, hb3⟩; obtain ⟨Ab, cb, rfl⟩ := Kd.R_slice hNb; have HB3 := Lib.hid (HB2.out.trans (hb3.mono HB2.out.size)); have HRA3 := Lib.hid (Kd.R_below HRA.out hb3); have HNB := Lib.hid hNb; clear hNb hb3 HRA RC
  go_wp2_with (go_at_call 17; refine hold_intro ?_)
  refine ⟨?_⟩; refine (live_calls w3 HFA.out HFB.out).mono ?_; rintro e w4 ⟨rfl, hb4⟩; have HB4 := Lib.hid (HB3.out.trans (hb4.mono HB3.out.size)); have SC := Lib.hid (hsame_calls Aa Ab ca cb G w4 (Kd.C_below (Kd.R_reads' HRA3.out).2.2 hb4) (Kd.R_reads' HRA3.out).2.1 (Kd.C_below (Kd.R_reads' HNB.out).2.2 hb4) (Kd.R_reads' HNB.out).2.1 HSM.out.1 HSM.out.2); clear hb4 HRA3 HNB HSM HB3
  go_wp2_with (go_at_call 20; refine hold_intro ?_)
  refine ⟨?_⟩; refine SC.out.mono ?_; rintro e w5 ⟨rfl, hb5⟩; have HB5 := Lib.hid (HB4.out.trans (hb5.mono HB4.out.size)); clear hb5; go_wp2; go_ret; exact ⟨rfl, HB5.out⟩
end Go.Proofs.YtmkgecapkeojaaaGreat.Eg
end
section
namespace Go.Proofs.YtmkgecapkeojaaaGreat.Eg
open Go.Proofs.YtmkgecapkeojaaaGreat Go.Proofs.YtmkgecapkeojaaaGreat.PDa Go.Proofs.YtmkgecapkeojaaaGreat.EvP
open Go.RowKit Go.Proofs.YtmkgecapkeojaaaGreatW.PrintWords Go.Proofs.YtmkgecapkeojaaaGreatW.PrintLast Go.Proofs.YtmkgecapkeojaaaGreatW.PrintMore
open Go.Proofs.YtmkgecapkeojaaaGreat.Stp Go.Proofs.YtmkgecapkeojaaaGreat.Rw
abbrev wfXs (l : List (List Op8)) : Prop := (∀ x ∈ l, wfX x) ∧ l.length * Tryz.prog.bytesOf 24 ≤ 140737488351232
theorem projects_walk (A0 : Option Addr) (c0 : Nat) (l0 : List EdP) (A1 : Option Addr) (c1 : Nat) (l1 : List (List Op8)) (w : World) (hr0 : Kd.C k41 w A0 l0.length l0) (hc0 : l0.length ≤ c0) (h0 : wfEs l0)
  (hr1 : Kd.C (Kd.slice 68 k68) w A1 l1.length l1) (hc1 : l1.length ≤ c1) (h1 : wfXs l1) :
  Calls Tryz.prog 4 #[.slice A0 l0.length c0, .slice A1 l1.length c1] w fun e w' => e = .returned (.bool true) ∧ Below w.heap.size w w' :=
 projects_calls factA factB A0 c0 l0 A1 c1 l1 w hr0 hc0 hr1 hc1 (okEs_wf h0) (List.all_eq_true.2 fun x hx => okXs_wf (h1.1 x hx))
end Go.Proofs.YtmkgecapkeojaaaGreat.Eg
end
