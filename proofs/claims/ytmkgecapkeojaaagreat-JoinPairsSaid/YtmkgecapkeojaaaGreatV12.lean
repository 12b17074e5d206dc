/- Texts of this claim, put together by a program: HWith, HNorm, HTwo, HOne, HParts, HOf, HEval, RefPut. -/
import Derived.Test.YtmkgecapkeojaaaGreatV11
set_option linter.unusedVariables false
set_option linter.unusedSimpArgs false
set_option maxHeartbeats 8000000
set_option maxRecDepth 100000
section
namespace Go.Proofs.YtmkgecapkeojaaaGreat.Eg
open Go.Proofs.YtmkgecapkeojaaaGreat Go.Proofs.YtmkgecapkeojaaaGreat.PDa
open Go.RowKit Go.Proofs.YtmkgecapkeojaaaGreatW.PrintWords Go.Proofs.YtmkgecapkeojaaaGreatW.PrintLast Go.Proofs.YtmkgecapkeojaaaGreatW.PrintMore
open Go.Proofs.YtmkgecapkeojaaaGreat.Stp Go.Proofs.YtmkgecapkeojaaaGreat.Rw
abbrev kI := Kd.int .i64
abbrev tI : Nat := 3
theorem hwith_calls (A0 : Option Addr) (c0 : Nat) (l : List Int) (t : Int) (w : World) (hr0 : Kd.C kI w A0 l.length l) (hc0 : l.length <= c0) (hl : l.length <= 1000000) (hs : l.Pairwise (· < ·)) :
  Calls Tryz.prog 140 #[.slice A0 l.length c0, .int .i64 t] w fun e w' => ∃ A c, e = .returned (.slice A (withI t l).length c) /\ (withI t l).length <= c /\ Kd.C kI w' A (withI t l).length (withI t l) /\ Below w.heap.size w w' := by
 have huI := Tryz.underlying53; have HR := Hd hr0; have HC := Hd hc0; have HL := Hd hl; have HS := Hd hs; clear hr0 hc0 hl hs; go_enter Tryz.func140, Tryz.ntmps140
 go_wp2_with
  ((with_reducible refine gate_dst (N := 8) rfl ?_); refine Kd.R_lit kI _ tI ?hg (N := 8) ?hd (xs := ([] : List Int)) (inner := []) (ok := fun _ => True) (okp := fun _ => True) ?hr ?hp (fun _ hk => hk) trivial (Below.refl _ _) (Nat.le_refl _) zq30 ?_; (case hd => rfl); (case hg => rfl); (case hr => first | (go_simp; done) | (go_simp; rfl)); (case hp => exact (Reps.none _ _)); intro vL wL ho hb hg_ hnew_; have HOL := Hd ho; have HBL := Hd hb; clear ho hb hg_ hnew_)
 go_loopw [5, 6, 7] (fun v5 v6 v7 wr => ∃ (i : Nat) (put : Bool) (out : List Int) (A5 : Option Addr) (c5 : Nat), i <= l.length /\ v7 = .int .i64 (i : Int) /\ v6 = .bool put /\ v5 = .slice A5 out.length c5 /\ Aside0 (Kd.R kI tI wr w.heap.size (fun _ => True) (.slice A5 out.length c5) out) /\ Aside0 (Below w.heap.size w wr) /\
  Aside0 (out.length <= i + 1) /\ Aside0 (if put = true then withI t l = out ++ l.drop i /\ ∀ x ∈ l.drop i, t < x else out = l.take i /\ withI t l = out ++ withI t (l.drop i))) (fun v5 v6 v7 wr => l.length - (intOf v7).toNat)
 case atStart =>
  obtain ⟨A5, c5, rfl⟩ := Kd.R_slice HOL.out; exact ⟨0, false, [], A5, c5, Nat.zero_le _, rfl, rfl, rfl, ⟨HOL.out⟩, ⟨HBL.out⟩, ⟨Nat.zero_le _⟩, ⟨by simp⟩⟩
 case round =>
  clear HOL HBL; obtain ⟨i, put, out, A5, c5, hi, rfl, rfl, rfl, HO, HB, HN, HE⟩ := hrel; have hll := HL.out
  by_cases c : i < l.length
  ·obtain ⟨x, hx⟩ : ∃ x, l[i] = x := ⟨_, rfl⟩
   obtain ⟨ad, e1, x0⟩ := Kd.at_int (Kd.C_below HR.out HB.out) (i : Int) zq4 zq4; have hrd : rd l (i : Int) = x := by rw [rdI l i c, hx]
   rw [Int.toNat_natCast, hrd] at x0; cases e1; have HD := Hd (show l.drop i = x :: l.drop (i + 1) by rw [List.drop_eq_getElem_cons c, hx]); have HTK := Hd (show l.take (i + 1) = l.take i ++ [x] by rw [List.take_add_one, List.getElem?_eq_getElem c, hx]; rfl); have HX0 := Hd (show w.cell? (ad.add i) = some (.int .i64 x) by
    obtain ⟨ad', e', y0⟩ := Kd.at_int HR.out (i : Int) zq4 zq4; rw [Int.toNat_natCast, hrd] at y0; cases e'; exact y0)
   have HGT := Hd (show ∀ y ∈ l.drop (i + 1), x < y from by
    have h := List.Pairwise.sublist (List.drop_sublist i l) HS.out; rw [HD.out] at h; exact (List.pairwise_cons.1 h).1)
   have pI : (0 <= (i : Int)) = True := eq_true zq4; have qI : ((i : Int) < (l.length : Int)) = True := eq_true zq4; have hwr := wrapN i zq4; clear hrd hx
   by_cases hxt : x = t
   ·have b0 : (x == t) = true := beq_iff_eq.mpr hxt
    have HV := Hd (show withI t l = l by
     cases put with
     | true =>
      have h := HE.out; rw [if_pos rfl] at h; have := h.2 x (by rw [HD.out]; exact List.mem_cons_self); omega
     | false =>
      have h := HE.out; rw [if_neg zq34] at h; rw [h.2, h.1, HD.out, withI, if_pos hxt, <- HD.out, List.take_append_drop])
    clear hxt; go_wp2; go_ret; rw [HV.out]; exact ⟨some ad, c0, rfl, HC.out, Kd.C_below HR.out HB.out, HB.out⟩
   ·have b0 : (x == t) = false := BNM hxt
    have HNE := Hd hxt; clear hxt; cases put with
    | true =>
     have h := HE.out; rw [if_pos rfl] at h; have HE2 := Hd (show withI t l = (out ++ [x]) ++ l.drop (i + 1) /\ ∀ y ∈ l.drop (i + 1), t < y from ⟨by rw [h.1, HD.out]; simp, fun y hy => h.2 y (by rw [HD.out]; exact List.mem_cons_of_mem _ hy)⟩); have b1 : decide (x > t) = true := DET (h.2 x (by rw [HD.out]; exact List.mem_cons_self)); clear h
     go_wp2_with
      ((with_reducible refine gate_dst (N := 42) rfl ?_); at_builtin; refine Kd.R_append kI (w0 := w) w.heap.size rfl (.tmp 36) (.tmp 41) 53 tI (.int .i64 0) 8 rfl huI info3 rfl zq34 zq4 (.slice A5 out.length c5) out x [.int .i64 x] (fun _ => True) (fun _ => False) rfl rfl ?aP (fun _ h => h.elim) (fun _ _ => trivial) HO.out HB.out HB.out.size ?aL ?_; (case aP => rfl); (case aL => have := HN.out; omega); intro vP wP ho hb hg_ hnew_; obtain ⟨AP, cP, rfl⟩ := Kd.R_slice ho; rw [List.length_append, List.length_singleton] at ho; have HOP := Hd ho; have HBP := Hd hb; skip; clear ho hb hg_ hnew_)
     go_roundw
     case rel => exact ⟨i + 1, true, out ++ [x], AP, cP, by omega, (by first | rw [hwr] | go_num), rfl, by rw [List.length_append]; rfl, ⟨by rw [List.length_append]; exact HOP.out⟩, ⟨HBP.out⟩, ⟨by have := HN.out; rw [List.length_append, List.length_singleton]; omega⟩, ⟨by rw [if_pos rfl]; exact HE2.out⟩⟩
     case measure => first | (rw [hwr]; simp [intOf]; omega) | (simp [intOf]; omega)
    | false =>
     have h := HE.out; rw [if_neg zq34] at h
     by_cases hgt : x > t
     ·have b1 : decide (x > t) = true := DET hgt
      have HE2 := Hd (show withI t l = ((out ++ [t]) ++ [x]) ++ l.drop (i + 1) /\ ∀ y ∈ l.drop (i + 1), t < y from ⟨by rw [h.2, HD.out, withI, if_neg HNE.out, if_pos (show t < x from hgt)]; simp, fun y hy => by have := HGT.out y hy; omega⟩); have HNI := Hd (show out.length <= i by rw [h.1, List.length_take]; omega); clear h hgt
      go_wp2_with (first
       |
       ((with_reducible refine gate_dst (N := 35) rfl ?_); at_builtin; refine Kd.R_append kI (w0 := w) w.heap.size rfl (.tmp 32) (.tmp 34) 53 tI (.int .i64 0) 8 rfl huI info3 rfl zq34 zq4 (.slice A5 out.length c5) out t [.int .i64 t] (fun _ => True) (fun _ => False) rfl rfl ?aP (fun _ h => h.elim) (fun _ _ => trivial) HO.out HB.out HB.out.size ?aL ?_; (case aP => rfl); (case aL => have := HN.out; omega); intro vP wP ho hb hg_ hnew_; obtain ⟨AP, cP, rfl⟩ := Kd.R_slice ho; rw [List.length_append, List.length_singleton] at ho; have HOP := Hd ho; have HBP := Hd hb; have y0 := pw_cell_below hb HX0.out; clear ho hb hg_ hnew_)
       |
       ((with_reducible refine gate_dst (N := 42) rfl ?_); at_builtin; refine Kd.R_append kI (w0 := w) w.heap.size rfl (.tmp 36) (.tmp 41) 53 tI (.int .i64 0) 8 rfl huI info3 rfl zq34 zq4 (.slice AP (out.length + 1) cP) (out ++ [t]) x [.int .i64 x] (fun _ => True) (fun _ => False) rfl rfl ?aP (fun _ h => h.elim) (fun _ _ => trivial) HOP.out HBP.out HBP.out.size ?aL ?_; (case aP => rfl); (case aL => have := HN.out; rw [List.length_append, List.length_singleton]; omega); intro vQ wQ ho hb hg_ hnew_; obtain ⟨AQ, cQ, rfl⟩ := Kd.R_slice ho; rw [List.length_append, List.length_singleton] at ho; have HOQ := Hd ho; have HBQ := Hd hb; skip; clear ho hb hg_ hnew_)
       )
      go_roundw
      case rel => exact ⟨i + 1, true, (out ++ [t]) ++ [x], AQ, cQ, by omega, (by first | rw [hwr] | go_num), rfl, by rw [List.length_append, List.length_append]; rfl, ⟨by rw [List.length_append]; exact HOQ.out⟩, ⟨HBQ.out⟩, ⟨by have h1 := HNI.out; clear hwr; simp only [List.length_append, List.length_singleton]; omega⟩, ⟨by rw [if_pos rfl]; exact HE2.out⟩⟩
      case measure => first | (rw [hwr]; simp [intOf]; omega) | (simp [intOf]; omega)
     ·have b1 : decide (x > t) = false := DEF hgt
      have HE2 := Hd (show out ++ [x] = l.take (i + 1) /\ withI t l = (out ++ [x]) ++ withI t (l.drop (i + 1)) from ⟨by rw [HTK.out, h.1], by rw [h.2, HD.out, withI, if_neg HNE.out, if_neg (show ¬ t < x from hgt)]; simp⟩); clear h hgt
      go_wp2_with
       ((with_reducible refine gate_dst (N := 42) rfl ?_); at_builtin; refine Kd.R_append kI (w0 := w) w.heap.size rfl (.tmp 36) (.tmp 41) 53 tI (.int .i64 0) 8 rfl huI info3 rfl zq34 zq4 (.slice A5 out.length c5) out x [.int .i64 x] (fun _ => True) (fun _ => False) rfl rfl ?aP (fun _ h => h.elim) (fun _ _ => trivial) HO.out HB.out HB.out.size ?aL ?_; (case aP => rfl); (case aL => have := HN.out; omega); intro vP wP ho hb hg_ hnew_; obtain ⟨AP, cP, rfl⟩ := Kd.R_slice ho; rw [List.length_append, List.length_singleton] at ho; have HOP := Hd ho; have HBP := Hd hb; skip; clear ho hb hg_ hnew_)
      go_roundw
      case rel => exact ⟨i + 1, false, out ++ [x], AP, cP, by omega, (by first | rw [hwr] | go_num), rfl, by rw [List.length_append]; rfl, ⟨by rw [List.length_append]; exact HOP.out⟩, ⟨HBP.out⟩, ⟨by have := HN.out; rw [List.length_append, List.length_singleton]; omega⟩, ⟨by rw [if_neg zq34]; exact HE2.out⟩⟩
      case measure => first | (rw [hwr]; simp [intOf]; omega) | (simp [intOf]; omega)
  ·obtain rfl : i = l.length := by omega
   rw [List.drop_length, List.take_length, List.append_nil] at HE; cases put with
   | true =>
    have HV := Hd (show withI t l = out by have h := HE.out; rw [if_pos rfl] at h; exact h.1); go_wp2; go_ret; rw [HV.out]; exact ⟨A5, c5, rfl, (Kd.R_reads' HO.out).2.1, (Kd.R_reads' HO.out).2.2, HB.out⟩
   | false =>
    have HV := Hd (show withI t l = out ++ [t] by have h := HE.out; rw [if_neg zq34] at h; exact h.2)
    go_wp2_with
     ((with_reducible refine gate_dst (N := 48) rfl ?_); at_builtin; refine Kd.R_append kI (w0 := w) w.heap.size rfl (.tmp 45) (.tmp 47) 53 tI (.int .i64 0) 8 rfl huI info3 rfl zq34 zq4 (.slice A5 out.length c5) out t [.int .i64 t] (fun _ => True) (fun _ => False) rfl rfl ?aP (fun _ h => h.elim) (fun _ _ => trivial) HO.out HB.out HB.out.size ?aL ?_; (case aP => rfl); (case aL => have := HN.out; omega); intro vP wP ho hb hg_ hnew_; obtain ⟨AP, cP, rfl⟩ := Kd.R_slice ho; rw [List.length_append, List.length_singleton] at ho; have HOP := Hd ho; have HBP := Hd hb; skip; clear ho hb hg_ hnew_)
    go_ret; rw [HV.out]; rw [List.length_append]; exact ⟨AP, cP, rfl, (Kd.R_reads' HOP.out).2.1, by have h := (Kd.R_reads' HOP.out).2.2; rw [List.length_append] at h; exact h, HBP.out⟩
theorem foldW_snoc (f : List Jp) (acc : List Int) (i : Nat) (h : i < f.length) : foldW (f.take (i + 1)) acc = withI f[i].f0 (foldW (f.take i) acc) := by
 unfold foldW; rw [List.take_add_one, List.getElem?_eq_getElem h, Option.toList_some, List.foldl_append]; rfl
theorem hplaces_calls (A0 A1 : Option Addr) (c0 c1 : Nat) (f g : List Jp) (w : World) (hr0 : Kd.C kJp w A0 f.length f) (hr1 : Kd.C kJp w A1 g.length g) (hlf : f.length <= 100000) (hlg : g.length <= 100000) :
  Calls Tryz.prog 110 #[.slice A0 f.length c0, .slice A1 g.length c1] w fun e w' => ∃ A c, e = .returned (.slice A (foldW g (foldW f [])).length c) /\ (foldW g (foldW f [])).length <= c /\ Kd.C kI w' A (foldW g (foldW f [])).length (foldW g (foldW f [])) /\ Below w.heap.size w w' := by
 have huI := Tryz.underlying53; have HR := Hd hr0; have HR2 := Hd hr1; have HL := Hd (And.intro hlf hlg); have HQQ := Hd (show ([] : List Int).Pairwise (· < ·) /\ ([] : List Int).length + f.length <= 900000 from ⟨List.Pairwise.nil, by simp; omega⟩); clear hr0 hr1 hlf hlg; go_enter Tryz.func110, Tryz.ntmps110
 go_wp2_with ((with_reducible refine gate_dst (N := 8) rfl ?_); refine Kd.R_lit kI _ tI ?hg (N := 8) ?hd (xs := ([] : List Int)) (inner := []) (ok := fun _ => True) (okp := fun _ => True) ?hr ?hp (fun _ hk => hk) trivial (Below.refl _ _) (Nat.le_refl _) zq30 ?_; (case hd => rfl); (case hg => rfl); (case hr => first | (go_simp; done) | (go_simp; rfl)); (case hp => exact (Reps.none _ _)); intro vL wL ho hb hg_ hnew_; obtain ⟨AL, cL, rfl⟩ := Kd.R_slice ho; have HOL := Hd (Kd.R_reads' ho); have HBL := Hd hb; clear ho hb hg_ hnew_)
 go_loopw [5, 6] (fun v5 vi wr => ∃ (i : Nat) (A5 : Option Addr) (c5 : Nat), i <= f.length /\ vi = .int .i64 (i : Int) /\ v5 = .slice A5 (foldW (f.take i) []).length c5 /\ Aside0 ((foldW (f.take i) []).length <= c5) /\ Aside0 (Kd.C kI wr A5 (foldW (f.take i) []).length (foldW (f.take i) [])) /\ Aside0 (Below w.heap.size w wr)) (fun v5 vi wr => f.length - (intOf vi).toNat)
 case atStart => exact ⟨0, AL, cL, Nat.zero_le _, rfl, rfl, ⟨Nat.zero_le _⟩, ⟨HOL.out.2.2⟩, ⟨HBL.out⟩⟩
 case round =>
  obtain ⟨i, A5, c5, hi, rfl, rfl, HC, HK, HB⟩ := hrel
  by_cases c : i < f.length
  ·
   obtain ⟨Y, hY⟩ : ∃ Y, f[i] = Y := ⟨_, rfl⟩
   obtain ⟨ad, e1, x0, _⟩ := at_T85 (Kd.C_below HR.out HB.out) (i : Int) zq4 zq4; rw [Int.toNat_natCast, rdJ f i c, hY] at x0; cases e1; have HS := Hd (show foldW (f.take (i + 1)) [] = withI Y.f0 (foldW (f.take i) []) by rw [foldW_snoc f [] i c, hY]); obtain ⟨hin, hln⟩ := foldW_inc (f.take i) [] HQQ.out.1; have WC := Hd (hwith_calls A5 c5 (foldW (f.take i) []) Y.f0 wr HK.out HC.out (by have h1 := HQQ.out.2; rw [List.length_take] at hln; omega) hin); rw [<- HS.out] at WC; have pI : (0 <= (i : Int)) = True := eq_true zq4; have qI : ((i : Int) < (f.length : Int)) = True := eq_true zq4; have hwr := wrapN i (by have := HQQ.out.2; omega); clear hin hln hY
   go_wp2_with (go_at_call 140; refine hold3 ?_)
   refine ⟨?_⟩; refine WC.out.mono ?_; rintro e w3 ⟨A6, c6, rfl, h6, hK6, hb3⟩; have HB3 := Hd (HB.out.trans (hb3.mono HB.out.size)); have H6 := Hd h6; have HK6 := Hd hK6; clear hb3 WC x0 h6 hK6; go_wp2; go_roundw
   case rel => exact ⟨i + 1, A6, c6, c, (by first | rw [hwr] | go_num), rfl, ⟨H6.out⟩, ⟨HK6.out⟩, ⟨HB3.out⟩⟩
   case measure => first | (rw [hwr]; simp [intOf]; omega) | (simp [intOf]; omega)
  ·obtain rfl : i = f.length := by omega
   rw [List.take_length] at HC HK ⊢; obtain ⟨acc, hacc⟩ : ∃ z, foldW f [] = z := ⟨_, rfl⟩
   have HQ2 := Hd (show acc.Pairwise (· < ·) /\ acc.length + g.length <= 900000 by
    obtain ⟨h1, h2⟩ := foldW_inc f [] List.Pairwise.nil; rw [hacc] at h1 h2; refine ⟨h1, ?_⟩; simp only [List.length_nil] at h2; have := HL.out; omega)
   rw [hacc] at HC HK ⊢; have HAE := Hd hacc; clear hacc HQQ; go_wp2
   go_loopw [5, 7] (fun v5 vi wr => ∃ (i : Nat) (A5 : Option Addr) (c5 : Nat), i <= g.length /\ vi = .int .i64 (i : Int) /\ v5 = .slice A5 (foldW (g.take i) acc).length c5 /\ Aside0 ((foldW (g.take i) acc).length <= c5) /\ Aside0 (Kd.C kI wr A5 (foldW (g.take i) acc).length (foldW (g.take i) acc)) /\ Aside0 (Below w.heap.size w wr)) (fun v5 vi wr => g.length - (intOf vi).toNat)
   case atStart => exact ⟨0, A5, c5, Nat.zero_le _, rfl, rfl, ⟨HC.out⟩, ⟨HK.out⟩, ⟨HB.out⟩⟩
   case round =>
    clear HC HK HB; obtain ⟨i, A5, c5, hi, rfl, rfl, HC, HK, HB⟩ := hrel
    by_cases c : i < g.length
    ·
     obtain ⟨Y, hY⟩ : ∃ Y, g[i] = Y := ⟨_, rfl⟩
     obtain ⟨ad, e1, x0, _⟩ := at_T85 (Kd.C_below HR2.out HB.out) (i : Int) zq4 zq4; rw [Int.toNat_natCast, rdJ g i c, hY] at x0; cases e1; have HS := Hd (show foldW (g.take (i + 1)) acc = withI Y.f0 (foldW (g.take i) acc) by rw [foldW_snoc g acc i c, hY]); obtain ⟨hin, hln⟩ := foldW_inc (g.take i) acc HQ2.out.1; have WC := Hd (hwith_calls A5 c5 (foldW (g.take i) acc) Y.f0 wr HK.out HC.out (by have h1 := HQ2.out.2; rw [List.length_take] at hln; omega) hin); rw [<- HS.out] at WC; have pI : (0 <= (i : Int)) = True := eq_true zq4; have qI : ((i : Int) < (g.length : Int)) = True := eq_true zq4; have hwr := wrapN i (by have := HQ2.out.2; omega); clear hin hln hY
     go_wp2_with (go_at_call 140; refine hold3 ?_)
     refine ⟨?_⟩; refine WC.out.mono ?_; rintro e w3 ⟨A6, c6, rfl, h6, hK6, hb3⟩; have HB3 := Hd (HB.out.trans (hb3.mono HB.out.size)); have H6 := Hd h6; have HK6 := Hd hK6; clear hb3 WC x0 h6 hK6; go_wp2; go_roundw
     case rel => exact ⟨i + 1, A6, c6, c, (by first | rw [hwr] | go_num), rfl, ⟨H6.out⟩, ⟨HK6.out⟩, ⟨HB3.out⟩⟩
     case measure => first | (rw [hwr]; simp [intOf]; omega) | (simp [intOf]; omega)
    ·obtain rfl : i = g.length := by omega
     rw [List.take_length] at HC HK ⊢; go_wp2; go_ret; rw [HAE.out]; exact ⟨A5, c5, rfl, HC.out, HK.out, HB.out⟩
theorem placeS_fold_len : ∀ (l : List Jp) (acc : List Int), (l.foldl placeS acc).length <= acc.length + l.length
 | [], acc => by simp
 | x :: xs, acc => by
  have h1 := placeS_fold_len xs (placeS acc x); have h2 := placeS_len acc x; rw [List.foldl_cons]; simp only [List.length_cons]; omega
theorem told09' (ps vs : List Int) (hl : ps.length <= 1000000) (hv : vs.length = ps.length) (hb : ∀ v ∈ vs, -2305843009213693952 <= v /\ v <= 2305843009213693952) : EvP.U (fun k => r09_Told.f k ps vs) (toldJ (toldI ps vs 0)) := by
 have h := told_l0 ps vs hl hv hb _ 0 [] 0 rfl (Nat.zero_le _) (Nat.zero_le _) zq4; unfold r09_Told.f; exact h
abbrev plc (l : List Jp) (i : Nat) : List Int := (l.take i).foldl placeS []
theorem hnorm09_calls (A0 : Option Addr) (c0 : Nat) (l : List Jp) (w : World) (hr0 : Kd.C kJp w A0 l.length l) (hc0 : l.length <= c0) (hl : l.length <= 1000000) :
  Calls Tryz.prog 93 #[.slice A0 l.length c0] w fun e w' => ∃ v, e = .returned (.tuple #[v, .int .i64 (normJ l).2]) /\ Kd.R kJp tJ w' w.heap.size (fun _ => True) v (normJ l).1 /\ Below w.heap.size w w' := by
 have huI := Tryz.underlying53; have HR := Hd hr0; have HL := Hd hl; have VC := Hd (fun (hf : Fair l) (t : Int) (W : World) (h : Below w.heap.size w W) => (value09 l t hf hl).get.elim fun k hk => r09_Value.calls k A0 c0 l t (valI l t) W (Kd.C_below hr0 h) hc0 hk); clear hr0 hc0 hl; go_enter Tryz.func93, Tryz.ntmps93; go_wp2
 go_loopw [4] (fun v4 wr => ∃ (i : Nat), i <= l.length /\ v4 = .int .i64 (i : Int) /\ Aside0 (∀ x ∈ l.take i, fairB x.f1 = true) /\ Aside0 (Below w.heap.size w wr)) (fun v4 wr => l.length - (intOf v4).toNat)
 case atStart => exact ⟨0, Nat.zero_le _, rfl, ⟨by simp⟩, ⟨Below.refl _ _⟩⟩
 case round =>
  obtain ⟨i, hi, rfl, HF, HB⟩ := hrel
  by_cases c : i < l.length
  ·obtain ⟨Y, hY⟩ : ∃ Y, l[i] = Y := ⟨_, rfl⟩
   obtain ⟨ad, e1, _, x1⟩ := at_T85 (Kd.C_below HR.out HB.out) (i : Int) zq4 zq4; rw [Int.toNat_natCast, rdJ l i c, hY] at x1; cases e1; have HTK := Hd (show l.take (i + 1) = l.take i ++ [Y] by rw [List.take_add_one, List.getElem?_eq_getElem c, hY]; rfl); have HYM := Hd (show Y ∈ l by rw [<- hY]; exact List.getElem_mem c); have pI : (0 <= (i : Int)) = True := eq_true zq4; have qI : ((i : Int) < (l.length : Int)) = True := eq_true zq4; have hwr := wrapN i (by have := HL.out; omega); clear hY; cases hfb : fairB Y.f1 with
   | false =>
    have HV := Hd (show normJ l = ([], 2) by unfold normJ; rw [if_pos (List.any_eq_true.2 ⟨Y, HYM.out, by rw [hfb]; rfl⟩)])
    by_cases h1 : Y.f1 > 1048576
    ·have b1 : decide (Y.f1 > 1048576) = true := DET h1
     clear h1 hfb; go_wp2; go_ret2; rw [HV.out]; exact ⟨_, rfl, Kd.R_nil _ _ _ _ _, HB.out⟩
    ·have b1 : decide (Y.f1 > 1048576) = false := DEF h1
     have b2 : decide (Y.f1 < -1048576) = true := DET (by
      unfold fairB at hfb; rw [Bool.and_eq_false_iff] at hfb
      rcases hfb with h | h
      ·have := of_decide_eq_false h; omega
      ·have := of_decide_eq_false h; omega)
     clear h1 hfb; go_wp2; go_ret2; rw [HV.out]; exact ⟨_, rfl, Kd.R_nil _ _ _ _ _, HB.out⟩
   | true =>
    have hf2 := okFair hfb; have b1 : decide (Y.f1 > 1048576) = false := DEF zq4; have b2 : decide (Y.f1 < -1048576) = false := DEF zq4; have HF2 := Hd (show ∀ x ∈ l.take (i + 1), fairB x.f1 = true by
     intro x hx; rw [HTK.out, List.mem_append, List.mem_singleton] at hx
     rcases hx with hx | hx
     ·exact HF.out x hx
     ·rw [hx]; exact hfb)
    clear hf2 hfb; go_wp2; go_roundw
    case rel => exact ⟨i + 1, c, (by first | rw [hwr] | go_num), ⟨HF2.out⟩, ⟨HB.out⟩⟩
    case measure => first | (rw [hwr]; simp [intOf]; omega) | (simp [intOf]; omega)
  ·obtain rfl : i = l.length := by omega
   rw [List.take_length] at HF; have HFR := Hd (show Fair l from fun x hx => okFair (HF.out x hx)); have HN2 := Hd (show (l.any fun x => !fairB x.f1) = false from List.any_eq_false.2 fun x hx => by rw [HF.out x hx]; decide); clear HF
   go_wp2_with ((with_reducible refine gate_dst (N := 29) rfl ?_); refine Kd.R_lit kI _ tI ?hg (N := 29) ?hd (xs := ([] : List Int)) (inner := []) (ok := fun _ => True) (okp := fun _ => True) ?hr ?hp (fun _ hk => hk) trivial (Below.refl _ _) (Nat.le_refl _) zq30 ?_; (case hd => rfl); (case hg => rfl); (case hr => first | (go_simp; done) | (go_simp; rfl)); (case hp => exact (Reps.none _ _)); intro vL wL ho hb hg_ hnew_; obtain ⟨AL, cL, rfl⟩ := Kd.R_slice ho; have HOL := Hd (Kd.R_reads' ho); have HBL := Hd (HB.out.trans (hb.mono HB.out.size)); clear ho hb hg_ hnew_)
   go_loopw [5, 6] (fun v5 v6 wr => ∃ (i : Nat) (A5 : Option Addr) (c5 : Nat), i <= l.length /\ v6 = .int .i64 (i : Int) /\ v5 = .slice A5 (plc l i).length c5 /\ Aside0 ((plc l i).length <= c5) /\ Aside0 (Kd.C kI wr A5 (plc l i).length (plc l i)) /\ Aside0 (∀ x ∈ l.take i, timeB x.f0 = false) /\ Aside0 (Below w.heap.size w wr)) (fun v5 v6 wr => l.length - (intOf v6).toNat)
   case atStart => exact ⟨0, AL, cL, Nat.zero_le _, rfl, rfl, ⟨Nat.zero_le _⟩, ⟨HOL.out.2.2⟩, ⟨by simp⟩, ⟨HBL.out⟩⟩
   case round =>
    clear HB HOL HBL; obtain ⟨i, A5, c5, hi, rfl, rfl, HC, HK, HT, HB⟩ := hrel
    by_cases c : i < l.length
    ·obtain ⟨Y, hY⟩ : ∃ Y, l[i] = Y := ⟨_, rfl⟩
     obtain ⟨ad, e1, x0, _⟩ := at_T85 (Kd.C_below HR.out HB.out) (i : Int) zq4 zq4; rw [Int.toNat_natCast, rdJ l i c, hY] at x0; cases e1; have HTK := Hd (show l.take (i + 1) = l.take i ++ [Y] by rw [List.take_add_one, List.getElem?_eq_getElem c, hY]; rfl); have HYM := Hd (show Y ∈ l by rw [<- hY]; exact List.getElem_mem c); have HPL := Hd (show plc l (i + 1) = placeS (plc l i) Y by unfold plc; rw [HTK.out, List.foldl_append]; rfl); have pI : (0 <= (i : Int)) = True := eq_true zq4; have qI : ((i : Int) < (l.length : Int)) = True := eq_true zq4; have hwr := wrapN i (by have := HL.out; omega); have HLI := Hd hi; clear hY
     by_cases h1 : Y.f0 < -1
     ·have b1 : decide (Y.f0 < -1) = true := DET h1
      have HV := Hd (show normJ l = ([], 13) by unfold normJ; rw [if_neg (by rw [HN2.out]; decide), if_pos (List.any_eq_true.2 ⟨Y, HYM.out, by unfold timeB; rw [b1]; rfl⟩)]); clear h1; go_wp2; go_ret2; rw [HV.out]; exact ⟨_, rfl, Kd.R_nil _ _ _ _ _, HB.out⟩
     ·have b1 : decide (Y.f0 < -1) = false := DEF h1
      by_cases h2 : Y.f0 > 1125899906842624
      ·have b2 : decide (Y.f0 > 1125899906842624) = true := DET h2
       have HV := Hd (show normJ l = ([], 13) by unfold normJ; rw [if_neg (by rw [HN2.out]; decide), if_pos (List.any_eq_true.2 ⟨Y, HYM.out, by unfold timeB; rw [b1, b2]; rfl⟩)]); clear h1 h2; go_wp2; go_ret2; rw [HV.out]; exact ⟨_, rfl, Kd.R_nil _ _ _ _ _, HB.out⟩
      ·have b2 : decide (Y.f0 > 1125899906842624) = false := DEF h2
       have HT2 := Hd (show ∀ x ∈ l.take (i + 1), timeB x.f0 = false by
        intro x hx; rw [HTK.out, List.mem_append, List.mem_singleton] at hx
        rcases hx with hx | hx
        ·exact HT.out x hx
        ·rw [hx]; unfold timeB; rw [b1, b2]; rfl)
       by_cases h3 : Y.f0 < 1125899906842624
       ·have b3 : decide (Y.f0 < 1125899906842624) = true := DET h3
        have hS : placeS (plc l i) Y = withI Y.f0 (plc l i) := by unfold placeS; rw [if_pos h3]
        have WC := Hd (hwith_calls A5 c5 (plc l i) Y.f0 wr HK.out HC.out (by have h := placeS_fold_len (l.take i) []; have h2 := HL.out; rw [List.length_take] at h; simp only [List.length_nil] at h; unfold plc; omega) (places_fold (l.take i) [] List.Pairwise.nil).1); rw [<- hS, <- HPL.out] at WC; clear h1 h2 h3 hS
        go_wp2_with (go_at_call 140; refine hold3 ?_)
        refine ⟨?_⟩; refine WC.out.mono ?_; rintro e w3 ⟨A6, c6, rfl, h6, hK6, hb3⟩; have HB3 := Hd (HB.out.trans (hb3.mono HB.out.size)); have H6 := Hd h6; have HK6 := Hd hK6; clear hb3 WC x0 h6 hK6; go_wp2; go_roundw
        case rel => exact ⟨i + 1, A6, c6, c, (by first | rw [hwr] | go_num), rfl, ⟨H6.out⟩, ⟨HK6.out⟩, ⟨HT2.out⟩, ⟨HB3.out⟩⟩
        case measure => first | (rw [hwr]; simp [intOf]; omega) | (simp [intOf]; omega)
       ·have b3 : decide (Y.f0 < 1125899906842624) = false := DEF h3
        have HS := Hd (show plc l (i + 1) = plc l i by rw [HPL.out]; unfold placeS; rw [if_neg h3]); clear h1 h2 h3; go_wp2; go_roundw
        case rel => exact ⟨i + 1, A5, c5, c, (by first | rw [hwr] | go_num), by rw [HS.out], ⟨by rw [HS.out]; exact HC.out⟩, ⟨by rw [HS.out]; exact HK.out⟩, ⟨HT2.out⟩, ⟨HB.out⟩⟩
        case measure => first | (rw [hwr]; simp [intOf]; omega) | (simp [intOf]; omega)
    ·obtain rfl : i = l.length := by omega
     obtain ⟨ps, hps⟩ : ∃ z, placesI l = z := ⟨_, rfl⟩
     have hpe : plc l l.length = ps := by rw [<- hps]; unfold plc placesI; rw [List.take_length]
     rw [List.take_length] at HT; have HPS := Hd (show ps.length <= 1000000 by have h := placeS_fold_len l []; have h2 := HL.out; simp only [List.length_nil] at h; rw [<- hps]; unfold placesI; omega); have HV := Hd (show normJ l = toldJ (toldI ps (ps.map (valI l)) 0) by
      unfold normJ; rw [if_neg (by rw [HN2.out]; decide), if_neg (by rw [Bool.not_eq_true, List.any_eq_false]; intro x hx; rw [HT.out x hx]; decide), <- told_canon l (fun x hx => by
       have h := HT.out x hx; unfold timeB at h; rw [Bool.or_eq_false_iff] at h; have := of_decide_eq_false h.1; omega), hps])
     rw [hpe] at HC HK ⊢; have HP := Hd (And.intro HC.out HK.out); have HBP := Hd HB.out; obtain ⟨w5, hw5⟩ : ∃ z, z = wr := ⟨_, rfl⟩
     subst hw5; clear HC HK HB HT hps hpe
     go_wp2_with ((with_reducible refine gate_dst (N := 63) rfl ?_); refine Kd.R_lit kI _ tI ?hg (N := 63) ?hd (xs := ([] : List Int)) (inner := []) (ok := fun _ => True) (okp := fun _ => True) ?hr ?hp (fun _ hk => hk) trivial (Below.refl _ _) (Nat.le_refl _) zq30 ?_; (case hd => rfl); (case hg => rfl); (case hr => first | (go_simp; done) | (go_simp; rfl)); (case hp => exact (Reps.none _ _)); intro v7 w6 ho hb hg_ hnew_; obtain ⟨A7, c7, rfl⟩ := Kd.R_slice ho; have HO6 := Hd ho; have HB6 := Hd hb; clear ho hb hg_ hnew_)
     go_loopw [7, 8] (fun v7 v8 wr => ∃ (i : Nat) (A7 : Option Addr) (c7 : Nat), i <= ps.length /\ v8 = .int .i64 (i : Int) /\ v7 = .slice A7 i c7 /\ Aside0 (Kd.R kI tI wr w5.heap.size (fun _ => True) (.slice A7 i c7) ((ps.take i).map (valI l))) /\ Aside0 (Below w5.heap.size w5 wr)) (fun v7 v8 wr => ps.length - (intOf v8).toNat)
     case atStart => exact ⟨0, A7, c7, Nat.zero_le _, rfl, rfl, ⟨HO6.out⟩, ⟨HB6.out⟩⟩
     case round =>
      clear HO6 HB6; obtain ⟨i, A7, c7, hi, rfl, rfl, HO, HB⟩ := hrel; have HBW := Hd (HBP.out.trans (HB.out.mono HBP.out.size))
      by_cases c : i < ps.length
      ·obtain ⟨p, hp⟩ : ∃ p, ps[i] = p := ⟨_, rfl⟩
       obtain ⟨ad, e1, x0⟩ := Kd.at_int (Kd.C_below HP.out.2 HB.out) (i : Int) zq4 zq4; have hrd : rd ps (i : Int) = p := by rw [rdI ps i c, hp]
       rw [Int.toNat_natCast, hrd] at x0; cases e1; have C1 := Hd (VC.out HFR.out p wr HBW.out); have HT := Hd (show (ps.take (i + 1)).map (valI l) = (ps.take i).map (valI l) ++ [valI l p] by rw [List.take_add_one, List.getElem?_eq_getElem c, hp]; simp); obtain ⟨a, ha⟩ : ∃ z, valI l p = z := ⟨_, rfl⟩
       rw [ha] at C1 HT; have HLI := Hd (show i <= 1000000 by have := HPS.out; omega); have pI : (0 <= (i : Int)) = True := eq_true zq4; have qI : ((i : Int) < (ps.length : Int)) = True := eq_true zq4; have hwr := wrapN i (by have := HPS.out; omega); clear hrd hp ha
       go_wp2_with (go_at_call 25; refine hold3 ?_)
       refine ⟨?_⟩; refine C1.out.mono ?_; rintro e w7 ⟨rfl, hd7⟩; have HO7 := Hd (Kd.R_below HO.out hd7.below); have HB7 := Hd (HB.out.trans (hd7.below.mono HB.out.size)); clear hd7 C1 x0
       go_wp2_with ((with_reducible refine gate_dst (N := 78) rfl ?_); at_builtin; refine Kd.R_append kI (w0 := w5) w5.heap.size rfl (.tmp 70) (.tmp 77) 53 tI (.int .i64 0) 8 rfl huI info3 rfl zq34 zq4 (.slice A7 i c7) _ a [.int .i64 a] (fun _ => True) (fun _ => False) rfl rfl ?aP (fun _ h => h.elim) (fun _ _ => trivial) HO7.out HB7.out HB7.out.size ?aL ?_; (case aP => rfl); (case aL => have := HLI.out; rw [List.length_map, List.length_take]; omega); intro vA w8 ho hb hg_ hnew_; have HO8 := Hd ho; have HB8 := Hd hb; clear ho hb hg_ hnew_)
       rw [<- HT.out] at HO8; obtain ⟨A8, c8, hv8⟩ := Kd.R_slice HO8.out; rw [List.length_map, List.length_take, Nat.min_eq_left c] at hv8; subst hv8; go_roundw
       case rel => exact ⟨i + 1, A8, c8, c, (by first | rw [hwr] | go_num), rfl, ⟨HO8.out⟩, ⟨HB8.out⟩⟩
       case measure => first | (rw [hwr]; simp [intOf]; omega) | (simp [intOf]; omega)
      ·obtain rfl : i = ps.length := by omega
       obtain ⟨vl, hvl⟩ : ∃ z, ps.map (valI l) = z := ⟨_, rfl⟩
       have hvn : vl.length = ps.length := by rw [<- hvl, List.length_map]
       rw [List.take_length, hvl] at HO; rw [hvl] at HV; obtain ⟨kt, hkt⟩ := (told09' ps vl HPS.out hvn (fun v hv => by
        rw [<- hvl] at hv; obtain ⟨p, _, rfl⟩ := List.mem_map.1 hv; have h := valI_bound p l HFR.out; have h2 := HL.out; omega)).get
       have hC := (Kd.R_reads' HO.out).2.2; rw [hvn] at hC; have TC := Hd (r09_Told.calls kt A5 c5 ps A7 c7 vl (toldJ (toldI ps vl 0)).1 (toldJ (toldI ps vl 0)).2 wr (Kd.C_below HP.out.2 HB.out) HP.out.1 (by rw [hvn]; exact hC) (by rw [hvn]; exact (Kd.R_reads' HO.out).2.1) (by rw [hkt])); rw [hvn, <- HV.out] at TC; clear hkt hC hvl hvn
       go_wp2_with (go_at_call 111; refine hold3 ?_)
       refine ⟨?_⟩; refine TC.out.mono ?_; rintro e w9 ⟨v9, rfl, hR9, hb9⟩; have HR9 := Hd (Kd.R_lower hR9 HBW.out.size); have HB9 := Hd (HBW.out.trans (hb9.mono HBW.out.size)); clear hR9 hb9 TC; go_wp2; go_ret2; exact ⟨v9, rfl, HR9.out, HB9.out⟩
def opW (k : Int) : Int -> Int -> Int := if k = 1 then (· * ·) else if k = 2 then whereO else (· + ·)
theorem opW_0 (k : Int) (h : k = 0 \/ k = 1 \/ k = 2) : opW k 0 0 = 0 := by
 rcases h with rfl | rfl | rfl <;> rfl
theorem opW_bd (k a b : Int) (h : k = 0 \/ k = 1 \/ k = 2) (h1 : -1073741824 <= a) (h2 : a <= 1073741824) (h3 : -1073741824 <= b) (h4 : b <= 1073741824) : -2305843009213693952 <= opW k a b /\ opW k a b <= 2305843009213693952 := by
 rcases h with rfl | rfl | rfl
 ·show -2305843009213693952 <= a + b /\ a + b <= 2305843009213693952; omega
 ·have := mul_bd a b h1 h2 h3 h4
  show -2305843009213693952 <= a * b /\ a * b <= 2305843009213693952; omega
 ·show -2305843009213693952 <= whereO a b /\ whereO a b <= 2305843009213693952
  unfold whereO; split <;> omega
theorem htwo_calls (what : Int) (hw : what = 0 \/ what = 1 \/ what = 2) (A0 A1 : Option Addr) (c0 c1 : Nat) (f g : List Jp) (w : World) (hr0 : Kd.C kJp w A0 f.length f) (hc0 : f.length <= c0) (hr1 : Kd.C kJp w A1 g.length g) (hc1 : g.length <= c1) :
  Calls Tryz.prog 67 #[.slice A0 f.length c0, .slice A1 g.length c1, .int .i64 what] w fun e w' => ∃ v, e = .returned (.tuple #[v, .int .i64 (bothV (opW what) f g).2]) /\ Kd.R kJp tJ w' w.heap.size (fun _ => True) v (bothV (opW what) f g).1 /\ Below w.heap.size w w' := by
 have huI := Tryz.underlying53; obtain ⟨kf, hkf⟩ := (may09 f).get; obtain ⟨kg, hkg⟩ := (may09 g).get; have MF := Hd (r09_May.calls kf A0 c0 f _ w hr0 hc0 hkf); have MG := Hd (fun (W : World) (h : Below w.heap.size w W) => r09_May.calls kg A1 c1 g _ W (Kd.C_below hr1 h) hc1 hkg); have PC := Hd (fun (hf : mayJ f = true) (hg : mayJ g = true) (W : World) (h : Below w.heap.size w W) => show Calls Tryz.prog 110 #[.slice A0 f.length c0, .slice A1 g.length c1] W fun e w' => ∃ A c, e = .returned (.slice A (placesI (f ++ g)).length c) /\ (placesI (f ++ g)).length <= c /\ Kd.C kI w' A (placesI (f ++ g)).length (placesI (f ++ g)) /\ Below W.heap.size W w' by
  have pf := mayJ_parts hf; have pg := mayJ_parts hg; have e := places_all (f ++ g) (fun j hj => by
   rcases List.mem_append.1 hj with hj | hj
   ·exact (pf.2.1 j hj).2.1
   ·exact (pg.2.1 j hj).2.1) []
  rw [List.foldl_append] at e; have h2 := hplaces_calls A0 A1 c0 c1 f g W (Kd.C_below hr0 h) (Kd.C_below hr1 h) zq4 zq4; rw [show foldW g (foldW f []) = placesI (f ++ g) from e] at h2; exact h2)
 have VF := Hd (fun (hf : mayJ f = true) (t : Int) (W : World) (h : Below w.heap.size w W) => (value09 f t (fun x hx => okFair ((mayJ_parts hf).2.1 x hx).2.2.2) (by have := (mayJ_parts hf).1; omega)).get.elim fun k hk => r09_Value.calls k A0 c0 f t (valI f t) W (Kd.C_below hr0 h) hc0 hk); have VG := Hd (fun (hg : mayJ g = true) (t : Int) (W : World) (h : Below w.heap.size w W) => (value09 g t (fun x hx => okFair ((mayJ_parts hg).2.1 x hx).2.2.2) (by have := (mayJ_parts hg).1; omega)).get.elim fun k hk => r09_Value.calls k A1 c1 g t (valI g t) W (Kd.C_below hr1 h) hc1 hk); clear hkf hkg hr0 hr1 hc0 hc1; obtain ⟨op, hop⟩ : ∃ z, opW what = z := ⟨_, rfl⟩
 rw [hop]; have HOP := Hd hop; have HW := Hd hw; obtain ⟨mf, hmf⟩ : ∃ z, mayJ f = z := ⟨_, rfl⟩
 obtain ⟨mg, hmg⟩ : ∃ z, mayJ g = z := ⟨_, rfl⟩
 rw [hmf] at MF; rw [hmg] at MG; have HMF := Hd hmf; have HMG := Hd hmg; clear hop hw hmf hmg; go_enter Tryz.func67, Tryz.ntmps67
 go_wp2_with (go_at_call 79; refine hold3 ?_)
 refine ⟨?_⟩; refine MF.out.mono ?_; rintro e w1 ⟨rfl, hd1⟩; have HB1 := Hd (show Below w.heap.size w w1 from hd1.below); clear hd1 MF; cases mf with
 | false =>
  have HV := Hd (show bothV op f g = ([], 2) by unfold bothV; rw [HMF.out]; rfl); go_wp2; go_ret2; rw [HV.out]; exact ⟨_, rfl, Kd.R_nil _ _ _ _ _, HB1.out⟩
 | true =>
  go_wp2_with (go_at_call 79; refine hold3 ?_)
  refine ⟨?_⟩; refine (MG.out w1 HB1.out).mono ?_; rintro e w2 ⟨rfl, hd2⟩; have HB2 := Hd (HB1.out.trans (hd2.below.mono HB1.out.size)); clear hd2 MG HB1; cases mg with
  | false =>
   have HV := Hd (show bothV op f g = ([], 2) by unfold bothV; rw [HMF.out, HMG.out]; rfl); go_wp2; go_ret2; rw [HV.out]; exact ⟨_, rfl, Kd.R_nil _ _ _ _ _, HB2.out⟩
  | true =>
   obtain ⟨ps, hps⟩ : ∃ z, placesI (f ++ g) = z := ⟨_, rfl⟩
   have P3 := Hd (PC.out HMF.out HMG.out w2 HB2.out); have HV := Hd (show bothV op f g = toldJ (toldI ps (ps.map fun p => op (valI f p) (valI g p)) 0) by
    unfold bothV; rw [HMF.out, HMG.out, <- hps, <- HOP.out, two_is (opW what) (opW_0 what HW.out) f g HMF.out HMG.out]; rfl)
   have HPL := Hd (show ps.length <= 2048 by
    have h := (foldW_inc (f ++ g) [] List.Pairwise.nil).2; have e : foldW (f ++ g) [] = placesI (f ++ g) := places_all (f ++ g) (fun j hj => by
     rcases List.mem_append.1 hj with hj | hj
     ·exact ((mayJ_parts HMF.out).2.1 j hj).2.1
     ·exact ((mayJ_parts HMG.out).2.1 j hj).2.1) []
    rw [e, hps, List.length_append] at h; have h1 := (mayJ_parts HMF.out).1; have h2 := (mayJ_parts HMG.out).1; simp only [List.length_nil] at h; omega)
   have HBD := Hd (show ∀ t, (-1073741824 <= valI f t /\ valI f t <= 1073741824) /\ (-1073741824 <= valI g t /\ valI g t <= 1073741824) from fun t => by
    have h1 := valI_bound t f (fun x hx => okFair ((mayJ_parts HMF.out).2.1 x hx).2.2.2); have h2 := valI_bound t g (fun x hx => okFair ((mayJ_parts HMG.out).2.1 x hx).2.2.2); have h3 := (mayJ_parts HMF.out).1; have h4 := (mayJ_parts HMG.out).1; omega)
   rw [hps] at P3; clear PC hps
   go_wp2_with (go_at_call 110; refine hold3 ?_)
   refine ⟨?_⟩; refine P3.out.mono ?_; rintro e w3 ⟨Ap, cp, rfl, hle, hCp, hb3⟩; have HP := Hd (And.intro trivial (And.intro hle hCp)); have HB3 := Hd (HB2.out.trans (hb3.mono HB2.out.size)); clear hle hCp hb3 P3
   go_wp2_with (((with_reducible refine gate_dst (N := 25) rfl ?_); refine Kd.R_lit kI _ tI ?hg (N := 25) ?hd (xs := ([] : List Int)) (inner := []) (ok := fun _ => True) (okp := fun _ => True) ?hr ?hp (fun _ hk => hk) trivial (Below.refl _ _) (Nat.le_refl _) zq30 ?_; (case hd => rfl); (case hg => rfl); (case hr => first | (go_simp; done) | (go_simp; rfl)); (case hp => exact (Reps.none _ _)); intro v9 w4 ho4 hb4 hg_ hnew_; have HO4 := Hd ho4; have HB4 := Hd hb4; clear hg_ hnew_ hb4 ho4))
   go_loopw [9, 10] (fun v9 v10 wr => ∃ (i : Nat) (A9 : Option Addr) (c9 : Nat), i <= ps.length /\ v10 = .int .i64 (i : Int) /\ v9 = .slice A9 i c9 /\ Aside0 (Kd.R kI tI wr w3.heap.size (fun _ => True) (.slice A9 i c9) ((ps.take i).map fun p => op (valI f p) (valI g p))) /\ Aside0 (Below w3.heap.size w3 wr)) (fun v9 v10 wr => ps.length - (intOf v10).toNat)
   case atStart =>
    obtain ⟨A9, c9, rfl⟩ := Kd.R_slice HO4.out; exact ⟨0, A9, c9, Nat.zero_le _, rfl, rfl, ⟨HO4.out⟩, ⟨HB4.out⟩⟩
   case round =>
    clear HO4 HB4; obtain ⟨i, A9, c9, hi, rfl, rfl, HO, HB⟩ := hrel; have HBW := Hd (HB3.out.trans (HB.out.mono HB3.out.size))
    by_cases c : i < ps.length
    ·obtain ⟨p, hp⟩ : ∃ p, ps[i] = p := ⟨_, rfl⟩
     obtain ⟨ad, e1, x0⟩ := Kd.at_int (Kd.C_below HP.out.2.2 HB.out) (i : Int) zq4 zq4; have hrd : rd ps (i : Int) = p := by
      unfold rd; rw [Int.toNat_natCast, List.getD_eq_getElem?_getD, List.getElem?_eq_getElem c]; exact hp
     rw [Int.toNat_natCast, hrd] at x0; cases e1; have C1 := Hd (VF.out HMF.out p wr HBW.out); have C2 := Hd (fun (W : World) (h : Below wr.heap.size wr W) => VG.out HMG.out p W (HBW.out.trans (h.mono HBW.out.size))); have HX0 := Hd x0; have HT := Hd (show (ps.take (i + 1)).map (fun p => op (valI f p) (valI g p)) = (ps.take i).map (fun p => op (valI f p) (valI g p)) ++ [op (valI f p) (valI g p)] by
      rw [List.take_add_one, List.getElem?_eq_getElem c, hp]; simp)
     have hb := HBD.out p; obtain ⟨a, ha⟩ : ∃ z, valI f p = z := ⟨_, rfl⟩
     obtain ⟨b, hb'⟩ : ∃ z, valI g p = z := ⟨_, rfl⟩
     rw [ha] at C1 HT hb; rw [hb'] at C2 HT hb; obtain ⟨⟨ha1, ha2⟩, hb1, hb2⟩ := hb; have HWA := Hd (show wrap64 (a + b) = a + b from wrapS _ (Int.le_trans zq34 (Int.add_le_add ha1 hb1)) (Int.le_trans (Int.add_le_add ha2 hb2) zq34)); have hmb := mul_bd a b ha1 ha2 hb1 hb2; have HWM := Hd (show wrap64 (a * b) = a * b from wrapS _ (Int.le_trans zq34 hmb.1) (Int.le_trans hmb.2 zq34)); clear hmb ha1 ha2 hb1 hb2; have HLI := Hd (show i <= 2048 by have := HPL.out; omega); have hwr := wrapN i (by have := HPL.out; omega); have pI : (0 <= (i : Int)) = True := eq_true zq4; have qI : ((i : Int) < (ps.length : Int)) = True := eq_true zq4; clear hrd hp ha hb'
     go_wp2_with (go_at_call 25; refine hold3 ?_)
     refine ⟨?_⟩; refine C1.out.mono ?_; rintro e w5 ⟨rfl, hd5⟩; have HB5 := Hd (show Below wr.heap.size wr w5 from hd5.below); have x5 := pw_cell_below HB5.out HX0.out; clear hd5 C1 x0
     go_wp2_with (go_at_call 25; refine hold3 ?_)
     refine ⟨?_⟩; refine (C2.out w5 HB5.out).mono ?_; rintro e w6 ⟨rfl, hd6⟩; have HB6 := Hd (HB5.out.trans (hd6.below.mono HB5.out.size)); clear hd6 C2 x5 HX0 HB5; have HO6 := Hd (Kd.R_below HO.out HB6.out); have HB36 := Hd (HB.out.trans (HB6.out.mono HB.out.size)); clear HO HB6 HB HBW HBD
     rcases HW.out with hwh | hwh | hwh
     ·subst hwh
      have hv := HWA.out; have HS := Hd (show op a b = a + b by rw [<- HOP.out]; rfl); rw [HS.out] at HT
      go_wp2_with (((with_reducible refine gate_dst (N := 60) rfl ?_); at_builtin; refine Kd.R_append kI (w0 := w3) w3.heap.size rfl (.tmp 57) (.tmp 59) 53 tI (.int .i64 0) 8 rfl huI info3 rfl zq34 zq4 (.slice A9 i c9) _ (a + b) [.int .i64 (a + b)] (fun _ => True) (fun _ => False) rfl rfl ?aP (fun _ h => h.elim) (fun _ _ => trivial) HO6.out HB36.out HB36.out.size ?aL ?_; (case aP => rfl); (case aL => have := HLI.out; rw [List.length_map, List.length_take]; omega); intro vA w7 ho hb hg_ hnew_; have HO7 := Hd ho; have HB7 := Hd hb; clear ho hb hg_ hnew_))
      rw [<- HT.out] at HO7; obtain ⟨A8, c8, hv8⟩ := Kd.R_slice HO7.out; rw [List.length_map, List.length_take, Nat.min_eq_left c] at hv8; subst hv8; go_roundw
      case rel => exact ⟨i + 1, A8, c8, c, (by first | rw [hwr] | go_num), rfl, ⟨HO7.out⟩, ⟨HB7.out⟩⟩
      case measure => first | (rw [hwr]; simp [intOf]; omega) | (simp [intOf]; omega)
     ·subst hwh
      have hv := HWM.out; have hva := HWA.out; have HS := Hd (show op a b = a * b by rw [<- HOP.out]; rfl); rw [HS.out] at HT
      go_wp2_with (((with_reducible refine gate_dst (N := 60) rfl ?_); at_builtin; refine Kd.R_append kI (w0 := w3) w3.heap.size rfl (.tmp 57) (.tmp 59) 53 tI (.int .i64 0) 8 rfl huI info3 rfl zq34 zq4 (.slice A9 i c9) _ (a * b) [.int .i64 (a * b)] (fun _ => True) (fun _ => False) rfl rfl ?aP (fun _ h => h.elim) (fun _ _ => trivial) HO6.out HB36.out HB36.out.size ?aL ?_; (case aP => rfl); (case aL => have := HLI.out; rw [List.length_map, List.length_take]; omega); intro vA w7 ho hb hg_ hnew_; have HO7 := Hd ho; have HB7 := Hd hb; clear ho hb hg_ hnew_))
      rw [<- HT.out] at HO7; obtain ⟨A8, c8, hv8⟩ := Kd.R_slice HO7.out; rw [List.length_map, List.length_take, Nat.min_eq_left c] at hv8; subst hv8; go_roundw
      case rel => exact ⟨i + 1, A8, c8, c, (by first | rw [hwr] | go_num), rfl, ⟨HO7.out⟩, ⟨HB7.out⟩⟩
      case measure => first | (rw [hwr]; simp [intOf]; omega) | (simp [intOf]; omega)
     ·subst hwh
      have hva := HWA.out
      by_cases hb0 : b = 0
      ·subst hb0
       have HS := Hd (show op a 0 = a by rw [<- HOP.out]; rfl); rw [HS.out] at HT
       go_wp2_with (((with_reducible refine gate_dst (N := 60) rfl ?_); at_builtin; refine Kd.R_append kI (w0 := w3) w3.heap.size rfl (.tmp 57) (.tmp 59) 53 tI (.int .i64 0) 8 rfl huI info3 rfl zq34 zq4 (.slice A9 i c9) _ a [.int .i64 a] (fun _ => True) (fun _ => False) rfl rfl ?aP (fun _ h => h.elim) (fun _ _ => trivial) HO6.out HB36.out HB36.out.size ?aL ?_; (case aP => rfl); (case aL => have := HLI.out; rw [List.length_map, List.length_take]; omega); intro vA w7 ho hb hg_ hnew_; have HO7 := Hd ho; have HB7 := Hd hb; clear ho hb hg_ hnew_))
       rw [<- HT.out] at HO7; obtain ⟨A8, c8, hv8⟩ := Kd.R_slice HO7.out; rw [List.length_map, List.length_take, Nat.min_eq_left c] at hv8; subst hv8; go_roundw
       case rel => exact ⟨i + 1, A8, c8, c, (by first | rw [hwr] | go_num), rfl, ⟨HO7.out⟩, ⟨HB7.out⟩⟩
       case measure => first | (rw [hwr]; simp [intOf]; omega) | (simp [intOf]; omega)
      ·have hbb : (b != 0) = true := bne_iff_ne.mpr hb0
       have HS := Hd (show op a b = 0 by rw [<- HOP.out]; show whereO a b = 0; unfold whereO; rw [if_pos hb0]); clear hb0; rw [HS.out] at HT
       go_wp2_with (((with_reducible refine gate_dst (N := 60) rfl ?_); at_builtin; refine Kd.R_append kI (w0 := w3) w3.heap.size rfl (.tmp 57) (.tmp 59) 53 tI (.int .i64 0) 8 rfl huI info3 rfl zq34 zq4 (.slice A9 i c9) _ 0 [.int .i64 0] (fun _ => True) (fun _ => False) rfl rfl ?aP (fun _ h => h.elim) (fun _ _ => trivial) HO6.out HB36.out HB36.out.size ?aL ?_; (case aP => rfl); (case aL => have := HLI.out; rw [List.length_map, List.length_take]; omega); intro vA w7 ho hb hg_ hnew_; have HO7 := Hd ho; have HB7 := Hd hb; clear ho hb hg_ hnew_))
       rw [<- HT.out] at HO7; obtain ⟨A8, c8, hv8⟩ := Kd.R_slice HO7.out; rw [List.length_map, List.length_take, Nat.min_eq_left c] at hv8; subst hv8; go_roundw
       case rel => exact ⟨i + 1, A8, c8, c, (by first | rw [hwr] | go_num), rfl, ⟨HO7.out⟩, ⟨HB7.out⟩⟩
       case measure => first | (rw [hwr]; simp [intOf]; omega) | (simp [intOf]; omega)
    ·obtain rfl : i = ps.length := by omega
     obtain ⟨vl, hvl⟩ : ∃ z, ps.map (fun p => op (valI f p) (valI g p)) = z := ⟨_, rfl⟩
     have hvn : vl.length = ps.length := by rw [<- hvl, List.length_map]
     rw [List.take_length, hvl] at HO; rw [hvl] at HV; obtain ⟨kt, hkt⟩ := (told09' ps vl (by have := HPL.out; omega) hvn (fun v hv => by
      rw [<- hvl] at hv; obtain ⟨p, _, rfl⟩ := List.mem_map.1 hv; have h := HBD.out p; rw [<- HOP.out]; exact opW_bd what _ _ HW.out h.1.1 h.1.2 h.2.1 h.2.2)).get
     have hC := (Kd.R_reads' HO.out).2.2; rw [hvn] at hC; have TC := Hd (r09_Told.calls kt Ap cp ps A9 c9 vl (toldJ (toldI ps vl 0)).1 (toldJ (toldI ps vl 0)).2 wr (Kd.C_below HP.out.2.2 HB.out) HP.out.2.1 (by rw [hvn]; exact hC) (by rw [hvn]; exact (Kd.R_reads' HO.out).2.1) (by rw [hkt])); rw [hvn, <- HV.out] at TC; clear hkt hC hvl hvn HBD
     go_wp2_with (go_at_call 111; refine hold3 ?_)
     refine ⟨?_⟩; refine TC.out.mono ?_; rintro e w5 ⟨v5, rfl, hR5, hb5⟩; have HR5 := Hd (Kd.R_lower hR5 HBW.out.size); have HB5 := Hd (HBW.out.trans (hb5.mono HBW.out.size)); clear hR5 hb5 TC; go_wp2; go_ret2; exact ⟨v5, rfl, HR5.out, HB5.out⟩
end Go.Proofs.YtmkgecapkeojaaaGreat.Eg
end
section
namespace Go.Proofs.YtmkgecapkeojaaaGreat.Eg
open Go.Proofs.YtmkgecapkeojaaaGreat Go.Proofs.YtmkgecapkeojaaaGreat.PDa
open Go.RowKit Go.Proofs.YtmkgecapkeojaaaGreatW.PrintWords Go.Proofs.YtmkgecapkeojaaaGreatW.PrintLast Go.Proofs.YtmkgecapkeojaaaGreatW.PrintMore
open Go.Proofs.YtmkgecapkeojaaaGreat.EvP (okI)
def oneV (c n : Int) (t : ByteArray) (l : List S65) (k m : Int) (s : ByteArray) : Int × Int × ByteArray × Int :=
 if c = 1 then (1, n, ⟨#[]⟩, 0) else if c = 2 then (2, 0, t, 0) else if c = 3 then (if n >= (l.length : Int) then (0, 0, ⟨#[]⟩, 3) else ((rd_T65 l n).f0, (rd_T65 l n).f1, (rd_T65 l n).f2, 0))
 else if c = 6 then (if k = 2 then (1, (s.size : Int), ⟨#[]⟩, 0) else (0, 0, ⟨#[]⟩, 12)) else if k = 1 then (if c = 5 then (1, tv (m == 0), ⟨#[]⟩, 0) else numR (okI (0 - m))) else (0, 0, ⟨#[]⟩, 12)
abbrev oneCalls (c n : Int) (t : ByteArray) (A1 : Option Addr) (c1 : Nat) (l : List S65) (k m : Int) (s : ByteArray) (w : World) (r : Int × Int × ByteArray × Int) : Prop :=
 Calls Tryz.prog 159 #[.agg #[.int .i64 c, .int .i64 n, .string t], .slice A1 l.length c1, .agg #[.int .i64 k, .int .i64 m, .string s]] w fun e w' => OutV r e /\ Below w.heap.size w w'
theorem ref_num (n : Int) (w : World) : Calls Tryz.prog 178 #[.int .i64 n] w fun e w' => e = .returned (.agg #[.int .i64 1, .int .i64 n, .string ⟨#[]⟩]) /\ Below w.heap.size w w' :=
 r05_Num.calls n 1 n ⟨#[]⟩ w rfl
theorem ref_neg (n : Int) (hn : EvP.R64 n) (w : World) : Calls Tryz.prog 179 #[.int .i64 n] w fun e w' => e = .returned (.tuple #[.int .i64 (okI (0 - n)).1, .int .i64 (okI (0 - n)).2]) /\ Below w.heap.size w w' :=
 (r01_Neg.calls n _ _ w (EvP.refNeg_eq n hn)).mono fun e w' z => ⟨z.1, z.2.below⟩
theorem one_num (A1 : Option Addr) (c1 : Nat) (l : List S65) (n k m : Int) (t s : ByteArray) (w : World) : oneCalls 1 n t A1 c1 l k m s w (1, n, ⟨#[]⟩, 0) := by
 go_enter Tryz.func159, Tryz.ntmps159
 go_wp2_with (go_at_call 178; ((with_reducible refine (ref_num _ _).mono ?_); rintro e w1 ⟨rfl, hb1⟩; obtain ⟨bA, bB, bR⟩ := bx3 w _ _ _ _ _ _ _ _ _ _ _ _ _ rfl; obtain ⟨pr0, pr1, pr2, qr0, qr1, qr2, _⟩ := bR.below hb1; replace hb1 := Hd ((below3 _ _ _).trans (hb1.mono zq33))))
 exact bodyPost_ret (v := .tuple #[.agg #[.int .i64 1, .int .i64 n, .string ⟨#[]⟩], .int .i64 0]) (by simp [results, Tryz.results159, go_sem, *]) rfl ⟨rfl, below_set3 hb1.out _ zq4 _ _ _⟩
theorem one_str (A1 : Option Addr) (c1 : Nat) (l : List S65) (n k m : Int) (t s : ByteArray) (w : World) : oneCalls 2 n t A1 c1 l k m s w (2, 0, t, 0) := by
 go_enter Tryz.func159, Tryz.ntmps159
 go_wp2_with (go_at_call 171; ((with_reducible refine (ref_text _ _).mono ?_); rintro e w1 ⟨rfl, hb1⟩; obtain ⟨bA, bB, bR⟩ := bx3 w _ _ _ _ _ _ _ _ _ _ _ _ _ rfl; obtain ⟨pr0, pr1, pr2, qr0, qr1, qr2, _⟩ := bR.below hb1; replace hb1 := Hd ((below3 _ _ _).trans (hb1.mono zq33))))
 exact bodyPost_ret (v := .tuple #[.agg #[.int .i64 2, .int .i64 0, .string t], .int .i64 0]) (by simp [results, Tryz.results159, go_sem, *]) rfl ⟨rfl, below_set3 hb1.out _ zq4 _ _ _⟩
theorem one_far (A1 : Option Addr) (c1 : Nat) (l : List S65) (n k m : Int) (t s : ByteArray) (h : decide (n >= (l.length : Int)) = true) (w : World) : oneCalls 3 n t A1 c1 l k m s w (0, 0, ⟨#[]⟩, 3) := by
 go_enter Tryz.func159, Tryz.ntmps159; go_wp2; exact bodyPost_ret (v := .tuple #[.agg #[.int .i64 0, .int .i64 0, .string ⟨#[]⟩], .int .i64 3]) (by simp [results, Tryz.results159, go_sem, *]) rfl ⟨rfl, below3 _ _ _⟩
theorem one_len (A1 : Option Addr) (c1 : Nat) (l : List S65) (n m : Int) (t s : ByteArray) (w : World) : oneCalls 6 n t A1 c1 l 2 m s w (1, (s.size : Int), ⟨#[]⟩, 0) := by
 go_enter Tryz.func159, Tryz.ntmps159
 go_wp2_with (go_at_call 178; ((with_reducible refine (ref_num _ _).mono ?_); rintro e w1 ⟨rfl, hb1⟩; obtain ⟨bA, bB, bR⟩ := bx3 w _ _ _ _ _ _ _ _ _ _ _ _ _ rfl; obtain ⟨pr0, pr1, pr2, qr0, qr1, qr2, _⟩ := bR.below hb1; replace hb1 := Hd ((below3 _ _ _).trans (hb1.mono zq33))))
 exact bodyPost_ret (v := .tuple #[.agg #[.int .i64 1, .int .i64 (s.size : Int), .string ⟨#[]⟩], .int .i64 0]) (by simp [results, Tryz.results159, go_sem, *]) rfl ⟨rfl, below_set3 hb1.out _ zq4 _ _ _⟩
theorem one_lenk (A1 : Option Addr) (c1 : Nat) (l : List S65) (n k m : Int) (t s : ByteArray) (h : (k == 2) = false) (w : World) : oneCalls 6 n t A1 c1 l k m s w (0, 0, ⟨#[]⟩, 12) := by
 go_enter Tryz.func159, Tryz.ntmps159; go_wp2; exact bodyPost_ret (v := .tuple #[.agg #[.int .i64 0, .int .i64 0, .string ⟨#[]⟩], .int .i64 12]) (by simp [results, Tryz.results159, go_sem, *]) rfl ⟨rfl, below3 _ _ _⟩
theorem one_kind (A1 : Option Addr) (c1 : Nat) (l : List S65) (c n k m : Int) (t s : ByteArray) (h1 : (c == 1) = false) (h2 : (c == 2) = false) (h3 : (c == 3) = false) (h6 : (c == 6) = false) (h : (k == 1) = false) (w : World) : oneCalls c n t A1 c1 l k m s w (0, 0, ⟨#[]⟩, 12) := by
 go_enter Tryz.func159, Tryz.ntmps159; go_wp2; exact bodyPost_ret (v := .tuple #[.agg #[.int .i64 0, .int .i64 0, .string ⟨#[]⟩], .int .i64 12]) (by simp [results, Tryz.results159, go_sem, *]) rfl ⟨rfl, below3 _ _ _⟩
theorem one_not (A1 : Option Addr) (c1 : Nat) (l : List S65) (n m : Int) (t s : ByteArray) (w : World) : oneCalls 5 n t A1 c1 l 1 m s w (1, tv (m == 0), ⟨#[]⟩, 0) := by
 go_enter Tryz.func159, Tryz.ntmps159
 go_wp2_with (go_at_call 170; ((with_reducible refine (ref_truth _ _).mono ?_); rintro e w1 ⟨rfl, hb1⟩; obtain ⟨bA, bB, bR⟩ := bx3 w _ _ _ _ _ _ _ _ _ _ _ _ _ rfl; obtain ⟨pr0, pr1, pr2, qr0, qr1, qr2, _⟩ := bR.below hb1; replace hb1 := Hd ((below3 _ _ _).trans (hb1.mono zq33))))
 exact bodyPost_ret (v := .tuple #[.agg #[.int .i64 1, .int .i64 (tv (m == 0)), .string ⟨#[]⟩], .int .i64 0]) (by simp [results, Tryz.results159, go_sem, *]) rfl ⟨rfl, below_set3 hb1.out _ zq4 _ _ _⟩
theorem one_neg (A1 : Option Addr) (c1 : Nat) (l : List S65) (c n m : Int) (t s : ByteArray) (hm : EvP.R64 m) (h1 : (c == 1) = false) (h2 : (c == 2) = false) (h3 : (c == 3) = false) (h6 : (c == 6) = false) (h5 : (c == 5) = false) (w : World) : oneCalls c n t A1 c1 l 1 m s w (numR (okI (0 - m))) := by
 go_enter Tryz.func159, Tryz.ntmps159
 go_wp2_with (first | (go_at_call 179; ((with_reducible refine (ref_neg m hm _).mono ?_); rintro e w1 ⟨rfl, hb1⟩; obtain ⟨bA, bB, bR⟩ := bx3 w _ _ _ _ _ _ _ _ _ _ _ _ _ rfl; obtain ⟨pr0, pr1, pr2, qr0, qr1, qr2, _⟩ := bR.below hb1; have bR2 := Hd (bR.below hb1); replace hb1 := Hd ((below3 _ _ _).trans (hb1.mono zq33)))) | (go_at_call 172; ((with_reducible refine (ref_number _ _ _).mono ?_); rintro e w2 ⟨rfl, hb2⟩; clear pr0 pr1 pr2 qr0 qr1 qr2; obtain ⟨pr0, pr1, pr2, qr0, qr1, qr2, _⟩ := bR2.out.below hb2; replace hb2 := Hd (g_bel hb1.out hb2))))
 exact bodyPost_ret (v := .tuple #[.agg #[.int .i64 (numR (okI (0 - m))).1, .int .i64 (numR (okI (0 - m))).2.1, .string (numR (okI (0 - m))).2.2.1], .int .i64 (numR (okI (0 - m))).2.2.2]) (by simp [results, Tryz.results159, go_sem, *]) rfl ⟨rfl, below_set3 hb2.out _ zq4 _ _ _⟩
theorem one_get (A1 : Option Addr) (c1 : Nat) (l : List S65) (n k m : Int) (t s : ByteArray) (w : World) (hr : Kd.C k65 w A1 l.length l) (h0 : 0 <= n) (h1 : n < (l.length : Int)) : oneCalls 3 n t A1 c1 l k m s w ((rd_T65 l n).f0, (rd_T65 l n).f1, (rd_T65 l n).f2, 0) := by
 obtain ⟨ad, rfl, x0, x1, x2⟩ := at_T65 hr n h0 h1; generalize rd_T65 l n = X at *; have y0 := pw_cell_below (below3 (w := w) (.cells #[.int .i64 3, .int .i64 n, .string t] 68) (.cells #[.int .i64 k, .int .i64 m, .string s] 65) (.cells #[.int .i64 0, .int .i64 0, .string ⟨#[]⟩] 65)) x0; have y1 := pw_cell_below (below3 (w := w) (.cells #[.int .i64 3, .int .i64 n, .string t] 68) (.cells #[.int .i64 k, .int .i64 m, .string s] 65) (.cells #[.int .i64 0, .int .i64 0, .string ⟨#[]⟩] 65)) x1; have y2 := pw_cell_below (below3 (w := w) (.cells #[.int .i64 3, .int .i64 n, .string t] 68) (.cells #[.int .i64 k, .int .i64 m, .string s] 65) (.cells #[.int .i64 0, .int .i64 0, .string ⟨#[]⟩] 65)) x2; have b0 : decide (n >= (l.length : Int)) = false := DEF zq4; have p0 : (0 <= n) = True := eq_true h0; have p1 : (n < (l.length : Int)) = True := eq_true h1; clear h0 h1 hr; go_enter Tryz.func159, Tryz.ntmps159; go_wp2; exact bodyPost_ret (v := .tuple #[.agg #[.int .i64 X.f0, .int .i64 X.f1, .string X.f2], .int .i64 0]) (by simp [results, Tryz.results159, go_sem, *]) rfl ⟨rfl, below3 _ _ _⟩
theorem hone_calls (A1 : Option Addr) (c1 : Nat) (l : List S65) (c n k m : Int) (t s : ByteArray) (w : World) (hr : Kd.C k65 w A1 l.length l) (hn : c = 3 -> 0 <= n) (hm : EvP.R64 m) : oneCalls c n t A1 c1 l k m s w (oneV c n t l k m s) := by
 have B := fun {a b : Int} (h : ¬ a = b) => (BNM h : (a == b) = false)
 unfold oneV
 by_cases h1 : c = 1
 ·subst h1; exact one_num A1 c1 l n k m t s w
 rw [if_neg h1]
 by_cases h2 : c = 2
 ·subst h2; exact one_str A1 c1 l n k m t s w
 rw [if_neg h2]
 by_cases h3 : c = 3
 ·subst h3
  rw [if_pos rfl]
  by_cases h : n >= (l.length : Int)
  ·rw [if_pos h]; exact one_far A1 c1 l n k m t s (DET h) w
  ·rw [if_neg h]; exact one_get A1 c1 l n k m t s w hr (hn rfl) zq4
 rw [if_neg h3]
 by_cases h6 : c = 6
 ·subst h6
  rw [if_pos rfl]
  by_cases h : k = 2
  ·subst h; exact one_len A1 c1 l n m t s w
  ·rw [if_neg h]; exact one_lenk A1 c1 l n k m t s (B h) w
 rw [if_neg h6]
 by_cases hk : k = 1
 ·subst hk
  rw [if_pos rfl]
  by_cases h5 : c = 5
  ·subst h5; exact one_not A1 c1 l n m t s w
  ·rw [if_neg h5]; exact one_neg A1 c1 l c n m t s hm (B h1) (B h2) (B h3) (B h6) (B h5) w
 ·rw [if_neg hk]; exact one_kind A1 c1 l c n k m t s (B h1) (B h2) (B h3) (B h6) (B hk) w
end Go.Proofs.YtmkgecapkeojaaaGreat.Eg
end
section
namespace Go.Proofs.YtmkgecapkeojaaaGreat.Eg
open Go.Proofs.YtmkgecapkeojaaaGreat Go.Proofs.YtmkgecapkeojaaaGreat.PDa
open Go.RowKit Go.Proofs.YtmkgecapkeojaaaGreatW.PrintWords Go.Proofs.YtmkgecapkeojaaaGreatW.PrintLast Go.Proofs.YtmkgecapkeojaaaGreatW.PrintMore
open Go.Proofs.YtmkgecapkeojaaaGreat.Rw
open Go.Proofs.YtmkgecapkeojaaaGreat.EvP (T takes takes_R tail_C)
abbrev Op18 := S68
abbrev kOp := k68
abbrev tO : Nat := 68
abbrev tX : Nat := 24
abbrev tXs : Nat := 32
def kidsT : T -> List T
 | .l _ => []
 | .u _ t => [t]
 | .b _ t s => [t, s]
def flT : List T -> List Op18
 | [] => []
 | t :: ts => t.fl ++ flT ts
theorem flT_snoc (s : T) : ∀ ts : List T, flT (ts ++ [s]) = flT ts ++ s.fl
 | [] => by simp [flT]
 | t :: ts => by rw [List.cons_append, flT, flT, flT_snoc s ts, List.append_assoc]
theorem kids_fl (t : T) (ht : t.ok) : t.fl = flT (kidsT t) ++ [t.top] /\ t.kids = (kidsT t).map T.fl /\ (takes t.top.f0 = ((kidsT t).length : Int)) /\ (kidsT t).length <= 2 /\ ∀ s ∈ kidsT t, s.ok := by
 cases t with
 | l o => exact ⟨by simp [T.fl, kidsT, flT, T.top], rfl, by rw [T.top, ht.2]; rfl, by simp [kidsT], by simp [kidsT]⟩
 | u o t => exact ⟨by simp [T.fl, kidsT, flT, T.top], rfl, by rw [T.top, ht.2.1]; rfl, by simp [kidsT], by simp [kidsT]; exact ht.2.2⟩
 | b o t s => exact ⟨by simp [T.fl, kidsT, flT, T.top], rfl, by rw [T.top, ht.2.1]; rfl, by simp [kidsT], by simp [kidsT]; exact ht.2.2⟩
theorem hparts_calls (t : T) (ht : t.ok) (hl : t.fl.length <= 64) (A0 : Option Addr) (c0 : Nat) (w : World) (hx : Kd.C kOp w A0 t.fl.length t.fl) (hc0 : t.fl.length <= c0) :
  Calls Tryz.prog 157 #[.slice A0 t.fl.length c0] w fun e w' => ∃ A c, e = .returned (.slice A t.kids.length c) /\ Kd.C (Kd.slice tO kOp) w' A t.kids.length t.kids /\ Below w.heap.size w w' := by
 obtain ⟨hfl, hkd, htk, hk2, hok⟩ := kids_fl t ht; obtain ⟨K0, hK0⟩ : ∃ z, kidsT t = z := ⟨_, rfl⟩
 obtain ⟨o, ho⟩ : ∃ z, t.top = z := ⟨_, rfl⟩
 rw [hK0, ho] at hfl; rw [hK0, ho] at htk; rw [hK0] at hkd hk2 hok; obtain ⟨x, hxe⟩ : ∃ z, t.fl = z := ⟨_, rfl⟩
 rw [hkd]; rw [hxe] at hfl hx hc0 hl ⊢; have huX := Tryz.underlying24; have huXs := Tryz.underlying32; obtain ⟨i0, hi0, _, hsz0, _⟩ := info_parts info68; have hxl : x.length = (flT K0).length + 1 := by rw [hfl]; simp
 obtain ⟨ad, e1, x0, _, _⟩ := at_T68 hx (((flT K0).length : Nat) : Int) zq4 zq4; have hro : rd_T68 x (((flT K0).length : Nat) : Int) = o := by
  unfold rd_T68; rw [Int.toNat_natCast, hfl, List.getD_eq_getElem?_getD]; simp
 rw [Int.toNat_natCast, hro] at x0; cases e1; obtain ⟨m, hm⟩ : ∃ z, (flT K0).length = z := ⟨_, rfl⟩
 rw [hm] at x0 hxl; have hw1 : wrap64 ((x.length : Int) - 1) = (m : Int) := by unfold wrap64; omega
 have pK : (0 <= (m : Int)) = True := eq_true zq4; have qK : ((m : Int) < (x.length : Int)) = True := eq_true zq4; have hcut := cut_to (P := Tryz.prog) tX tO .i64 huX hi0 (some ad) x.length c0 (m : Int) zq4 zq4 hc0; simp only [Int.toNat_natCast] at hcut; obtain ⟨kt, hkt⟩ := (takes_R o.f0).get; rw [htk] at hkt; have TC := Hd (fun W => r17_Takes.calls kt o.f0 (K0.length : Int) W hkt); have X0 := Hd x0; have HX := Hd hx; have HM := Hd (show Kd.C kOp w (some ad) m (flT K0) by
  have h := Kd.C_take (m := m) hx zq4; rw [show x.take m = flT K0 by rw [hfl, <- hm, List.take_left']; rfl, hm] at h; exact h)
 have HXL := Hd hxl; have HL := Hd hl; have HOK := Hd hok; have HK2 := Hd hk2; have HFM := Hd hm; have HC0 := Hd hc0; clear x0 hx hxl hl hok hk2 hm hfl hkd htk hkt hxe hK0 ho hro hc0 ht; go_enter Tryz.func157, Tryz.ntmps157
 go_wp2_with (first | ((with_reducible refine gate_dst (N := 7) rfl ?_); refine Kd.R_lit (kHd tO kOp w) _ tX ?hg (N := 7) ?hd (xs := ([] : List (List Op18))) (inner := []) (ok := fun _ => True) (okp := fun _ => True) ?hr ?hp (fun _ hk => hk) trivial (Below.refl _ _) (Nat.le_refl _) zq30 ?_; (case hd => rfl); (case hg => rfl); (case hr => first | (go_simp; done) | (go_simp; rfl)); (case hp => exact (Reps.none _ _)); intro v7 w1 ho1 hb1 hg_ hnew_; have HO1 := Hd ho1; have HB1 := Hd hb1; clear hg_ hnew_ hb1 ho1))
 clear hcut
 go_loopw [3, 4, 5] (fun v3 v4 v5 wr => ∃ (ks : List T) (outs : List (List Op18)) (A3 : Option Addr) (c3 : Nat) (A4 : Option Addr) (c4 : Nat), v5 = .int .i64 ((K0.length - ks.length : Nat) : Int) /\ v3 = .slice A3 outs.length c3 /\ v4 = .slice A4 (flT ks).length c4 /\ ks.length <= K0.length /\
  Aside0 ((kHd tO kOp wr).R tX wr w.heap.size (fun _ => True) (.slice A3 outs.length c3) outs) /\ Aside0 (Kd.C kOp w A4 (flT ks).length (flT ks)) /\ Aside0 ((flT ks).length <= c4) /\ Aside0 ((flT ks).length <= 64) /\ Aside0 (Below w.heap.size w wr) /\ Aside0 (K0.map T.fl = ks.map T.fl ++ outs) /\ Aside0 (∀ s ∈ ks, s.ok)) (fun v3 v4 v5 wr => K0.length - (intOf v5).toNat)
 case atStart =>
  obtain ⟨A3, c3, rfl⟩ := Kd.R_slice HO1.out; have h1 := HXL.out; have h2 := HL.out; have h3 := HC0.out; have h4 := HFM.out; exact ⟨K0, [], A3, c3, _, _, by rw [Nat.sub_self]; rfl, rfl, by rw [HFM.out], Nat.le_refl _, ⟨kHd_up HB1.out HO1.out⟩, ⟨by rw [HFM.out]; exact HM.out⟩, ⟨by omega⟩, ⟨by omega⟩, ⟨HB1.out⟩, ⟨by simp⟩, ⟨HOK.out⟩⟩
 case round =>
  clear HO1 HB1 HM HOK; obtain ⟨ks, outs, A3, c3, A4, c4, rfl, rfl, rfl, hks, HO, HR, HC4, HN4, HB, HEQ, HKO⟩ := hrel; have x0 := pw_cell_below HB.out X0.out; obtain ⟨rest, hrest⟩ : ∃ z, flT ks = z := ⟨_, rfl⟩
  obtain ⟨j, hj⟩ : ∃ z, K0.length - ks.length = z := ⟨_, rfl⟩
  rw [hrest] at HR HC4 HN4 ⊢; rw [hj]; have HJ := Hd hj; have HRE := Hd hrest; clear hj hrest
  rcases List.eq_nil_or_concat ks with hk | ⟨ks', s, hk⟩
  ·have bj : decide (j < K0.length) = false := DEF (by have := HJ.out; rw [hk] at this; simp at this; omega)
   have HE := Hd (show outs = K0.map T.fl by rw [HEQ.out, hk]; rfl); clear hk HEQ
   go_wp2_with (go_at_call 130; refine hold3 ?_)
   refine ⟨?_⟩; refine (TC.out _).mono ?_; rintro e wt ⟨rfl, hbt⟩; have HBt := Hd hbt.below; clear hbt; go_wp2; go_ret; rw [<- HE.out]; exact ⟨A3, c3, rfl, kHd_C HBt.out (Kd.R_reads' (Kd.R_below HO.out HBt.out)).2.2, HB.out.trans (HBt.out.mono HB.out.size)⟩
  ·rw [List.concat_eq_append] at hk
   have hrp : rest = flT ks' ++ s.fl := by rw [<- HRE.out, hk, flT_snoc]
   have hso : s.ok := HKO.out s (by rw [hk]; simp); have hkl : ks.length = ks'.length + 1 := by rw [hk]; simp
   have bj : decide (j < K0.length) = true := DET (by have := HJ.out; omega); obtain ⟨p, hp⟩ : ∃ z, flT ks' = z := ⟨_, rfl⟩
   rw [hp] at hrp; have hrl : rest.length = p.length + s.fl.length := by rw [hrp, List.length_append]
   have hn4 := HN4.out; have hc4 := HC4.out; obtain ⟨kl, hkl2⟩ := (tail_C s hso p (by rw [<- hrp]; exact hn4)).get; rw [<- hrp] at hkl2; have LC := Hd (fun W h => r17_Tail.calls kl A4 c4 rest (s.fl.length : Int) W h hc4 hkl2); have hw2 : wrap64 ((rest.length : Int) - (s.fl.length : Int)) = (p.length : Int) := by unfold wrap64; omega
   obtain ⟨i0, hi0, _, hsz0, _⟩ := info_parts info68; have hct := cut_to (P := Tryz.prog) tX tO .i64 huX hi0 A4 rest.length c4 (p.length : Int) zq4 zq4 hc4; have hcf := cut_from (P := Tryz.prog) tX tO .i64 huX hi0 3 hsz0 A4 rest.length c4 (p.length : Int) zq4 zq4; simp only [Int.toNat_natCast] at hct hcf; rw [show rest.length - p.length = s.fl.length by omega] at hcf; have HRT := Hd (show Kd.C kOp w A4 p.length p by
    have h := Kd.C_take (m := p.length) HR.out zq4; rw [hrp, List.take_left'] at h <;> first | exact h | rfl)
   have HRD := Hd (show Kd.C kOp w (if c4 = p.length then A4 else A4.map (·.add (p.length * 3))) s.fl.length s.fl by
    have h := Kd.C_drop (m := p.length) HR.out zq4 hc4; rw [hrp, List.drop_left'] at h <;> first | exact h | rfl)
   obtain ⟨AF, hAF⟩ : ∃ z, (if c4 = p.length then A4 else A4.map (·.add (p.length * 3))) = z := ⟨_, rfl⟩
   rw [hAF] at hcf HRD; obtain ⟨sf, hsf⟩ : ∃ z, s.fl = z := ⟨_, rfl⟩
   rw [hsf] at hcf HRD LC hw2 hrl; have HSF := Hd hsf; have HKS := Hd hk; have HPP := Hd hp; have HKL := Hd hkl; have HRL := Hd hrl; clear hk hp hkl hrp hAF hkl2 hsf hi0 hsz0 hso hrl hn4 hc4
   go_wp2_with (go_at_call 130; refine hold3 ?_)
   refine ⟨?_⟩; refine (TC.out _).mono ?_; rintro e wt ⟨rfl, hbt⟩; have HBt := Hd hbt.below; clear hbt
   go_wp2_with (go_at_call 88; refine hold3 ?_)
   refine ⟨?_⟩; refine (LC.out _ (Kd.C_below HR.out (HB.out.trans (HBt.out.mono HB.out.size)))).mono ?_; rintro e wu ⟨rfl, hbu⟩; have HBU := Hd (show Below wr.heap.size wr wu from HBt.out.trans (hbu.mono HBt.out.size)); have HRX := Hd (fun (W : World) (h : Below wu.heap.size wu W) => Kd.C_below HRD.out ((HB.out.trans (HBU.out.mono HB.out.size)).trans (h.mono (Nat.le_trans HB.out.size HBU.out.size)))); have HSL := Hd (show sf.length <= 64 by have := HRL.out; have := HN4.out; omega); have HOL := Hd (show outs.length <= 64 by have h := congrArg List.length HEQ.out; rw [List.length_map, List.length_append] at h; have := HK2.out; omega); clear hbu HBt LC x0
   go_wp2_with (first
    | ((with_reducible refine gate_dst (N := 27) rfl ?_); refine Kd.R_lit kOp _ tO ?hg (N := 27) ?hd (xs := ([] : List Op18)) (inner := []) (ok := fun _ => True) (okp := fun _ => True) ?hr ?hp (fun _ hk => hk) trivial (Below.refl _ _) (Nat.le_refl _) zq30 ?_; (case hd => rfl); (case hg => rfl); (case hr => first | (go_simp; done) | (go_simp; rfl)); (case hp => exact (Reps.none _ _)); intro v27 wa ho hb hg_ hnew_; have HOA := Hd ho; have HBA := Hd hb; clear ho hb hg_ hnew_)
    | ((with_reducible refine gate_dst (N := 34) rfl ?_); refine Kd.R_append_rows kOp (w0 := wu) wu.heap.size rfl (.tmp 27) (.tmp 33) tX tO (.agg #[.int .i64 0, .int .i64 0, .string ⟨#[]⟩]) 32 rfl huX info68 rfl zq34 zq4 v27 [] sf _ _ _ (fun _ => True) (fun _ => False) rfl rfl HOA.out (HRX.out _ HBA.out) (fun _ _ h => h) (fun _ h => h.elim) (fun _ _ => trivial) HBA.out HBA.out.size ?aL ?_; (case aL => have := HSL.out; rw [List.length_nil]; omega); intro v34 wb ho hb hg_ hnew_; rw [List.nil_append] at ho; obtain ⟨A34, c34, rfl⟩ := Kd.R_slice ho; have HOB := Hd (Kd.R_reads' ho); have HBB := Hd hb; clear ho hb hg_ hnew_)
    | ((with_reducible refine gate_dst (N := 35) rfl ?_); refine Kd.R_lit (kHd tO kOp wb) (w0 := wb) wb.heap.size tX ?hg (N := 35) ?hd (xs := [sf]) (inner := [.slice A34 sf.length c34]) (ok := fun _ => True) (okp := fun _ => True) ?hr ?hp (fun _ hk => hk) trivial (Below.refl _ _) (Nat.le_refl _) zq30 ?_; (case hd => rfl); (case hg => rfl); (case hr => first | (go_simp; done) | (go_simp; rfl)); (case hp => exact (Reps.one ⟨A34, c34, rfl, HOB.out.2.1, HOB.out.2.2⟩ (Reps.none _ _))); intro v35 wc ho hb hg_ hnew_; have HOC := Hd ho; have HBC := Hd hb; clear ho hb hg_ hnew_)
    | ((with_reducible refine gate_dst (N := 37) rfl ?_); refine Kd.R_append_rows (kHd tO kOp wb) (w0 := wb) wb.heap.size rfl (.tmp 35) (.tmp 36) tXs tX (.slice none 0 0) 24 rfl huXs info24 rfl Nat.one_pos zq4 v35 [sf] outs _ _ _ (fun _ => True) (fun _ => False) rfl rfl HOC.out ?aR (fun _ _ h => h) (fun _ h => h.elim) (fun _ _ => trivial) HBC.out HBC.out.size ?aL ?_; (case aR => exact (Kd.R_reads' (Kd.R_below (kHd_up (HBU.out.trans (HBB.out.mono HBU.out.size)) HO.out) ((HBU.out.trans (HBB.out.mono HBU.out.size)).trans (HBC.out.mono (Nat.le_trans HBU.out.size HBB.out.size))))).2.2); (case aL => have := HOL.out; rw [List.length_singleton]; omega); intro v37 wd ho hb hg_ hnew_; have HOD := Hd ho; have HBD := Hd hb; clear ho hb hg_ hnew_))
   obtain ⟨A9, c9, rfl⟩ := Kd.R_slice HOD.out; have hw3 : wrap64 ((j : Int) + 1) = ((K0.length - ks'.length : Nat) : Int) := by have h1 := HJ.out; have h2 := HKL.out; have h3 := HK2.out; unfold wrap64; omega
   have HBX := Hd (HB.out.trans ((HBU.out.trans ((HBB.out.trans (HBD.out.mono HBB.out.size)).mono HBU.out.size)).mono HB.out.size)); have HSZ := Hd (Nat.le_trans HB.out.size (Nat.le_trans HBU.out.size HBB.out.size)); go_roundw
   case rel => exact ⟨.slice A9 ([sf] ++ outs).length c9, .slice A4 p.length c4, .int .i64 (wrap64 ((j : Int) + 1)), ⟨ks', by rw [hw3], [sf] ++ outs, A9, c9, rfl, A4, c4, by rw [HPP.out], by have := HKL.out; omega, ⟨Kd.R_lower (kHd_up HBD.out HOD.out) HSZ.out⟩, ⟨by rw [HPP.out]; exact HRT.out⟩, ⟨by rw [HPP.out]; have := HRL.out; have := HC4.out; omega⟩, ⟨by rw [HPP.out]; have := HRL.out; have := HN4.out; omega⟩, ⟨HBX.out⟩, ⟨by rw [HEQ.out, HKS.out, List.map_append, List.append_assoc, <- HSF.out]; rfl⟩, ⟨fun z hz => HKO.out z (by rw [HKS.out]; simp [hz])⟩⟩, rfl, rfl, rfl⟩
   case measure => rw [hw3]; simp [intOf]; have h1 := HJ.out; have h2 := HKL.out; omega
end Go.Proofs.YtmkgecapkeojaaaGreat.Eg
end
section
namespace Go.Proofs.YtmkgecapkeojaaaGreat.Eg
open Go.Proofs.YtmkgecapkeojaaaGreat Go.Proofs.YtmkgecapkeojaaaGreat.PDa
open Go.RowKit Go.Proofs.YtmkgecapkeojaaaGreatW.PrintWords Go.Proofs.YtmkgecapkeojaaaGreatW.PrintLast Go.Proofs.YtmkgecapkeojaaaGreatW.PrintMore
open Go.Proofs.YtmkgecapkeojaaaGreat.Rw
open Go.Proofs.YtmkgecapkeojaaaGreat.EvP (outV evL evU evB VOk ROk okW takes T good_ev R64)
abbrev Out4 := Int × Int × ByteArray × Int
theorem oneV_L (row : List Vl) (hr : ROk row) (o : Op18) (hw : okW o = true) (ht : takes o.f0 = 0) : oneV o.f0 o.f1 o.f2 row 0 0 ⟨#[]⟩ = outV (evL row o) := by
 unfold oneV
 rcases EvP.takes_0 ht with h | h | h
 ·rw [if_pos h, show evL row o = .ok (.num o.f1) by unfold evL; rw [if_pos h]]; rfl
 ·rw [if_neg zq4, if_pos h, show evL row o = .ok (.txt o.f2) by unfold evL; rw [if_neg zq4, if_pos h]]; rfl
 ·have hg := EvP.okW_get hw h
  rw [if_neg zq4, if_neg zq4, if_pos h]
  by_cases hn : o.f1 < (row.length : Int)
  ·have hm := EvP.rd_mem hg.1 hn
   have hv := (EvP.getTh_ok ((EvP.rowMay_at hr.may).2 _ hm) (hr.r64 _ hm)).2; rw [if_neg zq4, show evL row o = .ok (getTh (rd_T65 row o.f1)) by unfold evL; rw [if_neg zq4, if_neg zq4, if_pos hn]]; generalize rd_T65 row o.f1 = v at *
   show (v.f0, v.f1, v.f2, (0 : Int)) = ((thVal3 (getTh v)).1, (thVal3 (getTh v)).2.1, (thVal3 (getTh v)).2.2, 0)
   rw [hv]
  ·rw [if_pos zq4, show evL row o = .error 3 by unfold evL; rw [if_neg zq4, if_neg zq4, if_neg hn]]; rfl
theorem oneV_U (row : List Vl) (o : Op18) (ht : takes o.f0 = 1) (x : Th) : oneV o.f0 o.f1 o.f2 row (thVal3 x).1 (thVal3 x).2.1 (thVal3 x).2.2 = outV (evU o.f0 x) := by
 unfold oneV
 rcases EvP.takes_1 ht with h | h | h <;> rw [if_neg zq4, if_neg zq4, if_neg zq4, h]
 ·cases x with
  | num a => exact EvP.outV_num _
  | txt a => rfl
 ·cases x <;> rfl
 ·cases x <;> rfl
def thV (x : Th) : Vl := ⟨(thVal3 x).1, (thVal3 x).2.1, (thVal3 x).2.2⟩
theorem bx1 (w : World) (x0 x1 x2 : Value) (t : TypeId) : Bx w.heap.size (w.alloc (.cells #[x0, x1, x2] t)) x0 x1 x2 := by
 refine ⟨?_, ?_, ?_, ?_, ?_, ?_, ?_⟩
 all_goals first | (simp [go_sem]; done) | (simp; omega)
def goV (fin : List Th -> Out4) : List (Except Int Th) -> List Th -> Out4
 | [], vs => fin vs
 | .error e :: _, _ => outV (.error e)
 | .ok v :: rs, vs => goV fin rs (vs ++ [v])
def goS (fin : List Th -> Out4) (rs : List (Except Int Th)) (vs : List Th) : Except Int Th -> Out4
 | .error e => outV (.error e)
 | .ok v => goV fin rs (vs ++ [v])
theorem goV_cons (fin : List Th -> Out4) (rs : List (Except Int Th)) (vs : List Th) (r : Except Int Th) : goV fin (r :: rs) vs = goS fin rs vs r := by cases r <;> rfl
abbrev OfIs (A1 : Option Addr) (c1 : Nat) (row : List Vl) (W : World) (x : List Op18) (r : Out4) : Prop :=
 ∀ (A0 : Option Addr) (c0 : Nat) (w : World), Kd.C kOp w A0 x.length x -> x.length <= c0 -> Below W.heap.size W w ->
  Calls Tryz.prog 131 #[.slice A0 x.length c0, .slice A1 row.length c1] w fun e w' => OutV r e /\ Below w.heap.size w w'
abbrev TwoIs (c : Int) (a b : Th) (r : Out4) : Prop := ∀ w : World, Calls Tryz.prog 158 #[.int .i64 c, .agg #[.int .i64 (thV a).f0, .int .i64 (thV a).f1, .string (thV a).f2], .agg #[.int .i64 (thV b).f0, .int .i64 (thV b).f1, .string (thV b).f2]] w fun e w' => OutV r e /\ Below w.heap.size w w'
def hof.T12 : Bool × List (List Nat × List Nat) := (true, [([], []), ([0], [0]), ([], []), ([2], [2]), ([3], [3]), ([], []), ([5], [5]), ([6], [6]), ([1, 4, 7], [1, 4, 7]), ([8], [8]), ([8], [8]), ([9, 8, 0, 1, 2, 3, 4, 5, 6, 7, 8, 9, 10], [9]), ([10, 11, 0, 1, 2, 3, 4, 5, 6, 7, 8, 9, 10, 11], [10])])
def hof.B12 : List Nat := [0, 1, 0, 4, 12, 0, 32, 96, 255, 511, 511, 2047, 4095]
theorem hof.tab12 : rtab .any (opsOf Tryz.f131 12) = hof.T12 := by kernel_rfl
theorem hof.bits12 : waitsOk hof.T12.2 hof.B12 = true := by kernel_rfl
theorem of_walk (A1 : Option Addr) (c1 : Nat) (row : List Vl) (W0 : World) (hrow : Kd.C kV W0 A1 row.length row) (hc1 : row.length <= c1) (q : List Op18) (o : Op18) (ps : List (List Op18)) (rs : List (Except Int Th)) (fin : List Th -> Out4)
  (hl : (q ++ [o]).length <= 64) (hps : ps.length <= 2) (hrs : rs.length = ps.length)
  (PC : ∀ (A0 : Option Addr) (c0 : Nat) (w : World), Kd.C kOp w A0 (q ++ [o]).length (q ++ [o]) -> (q ++ [o]).length <= c0 -> Calls Tryz.prog 157 #[.slice A0 (q ++ [o]).length c0] w fun e w' => ∃ A c, e = .returned (.slice A ps.length c) /\ Kd.C (Kd.slice 68 kOp) w' A ps.length ps /\ Below w.heap.size w w')
  (IH : ∀ (i : Nat) (p : List Op18) (r : Except Int Th), ps[i]? = some p -> rs[i]? = some r -> OfIs A1 c1 row W0 p (outV r) /\ EvP.Good r)
  (F2 : ∀ a b, VOk a -> VOk b -> ps.length = 2 -> TwoIs o.f0 a b (fin [a, b])) (F1 : ∀ a, VOk a -> ps.length = 1 -> ∀ w, Below W0.heap.size W0 w -> oneCalls o.f0 o.f1 o.f2 A1 c1 row (thV a).f0 (thV a).f1 (thV a).f2 w (fin [a])) (F0 : ps.length = 0 -> ∀ w, Below W0.heap.size W0 w -> oneCalls o.f0 o.f1 o.f2 A1 c1 row 0 0 ⟨#[]⟩ w (fin [])) :
  OfIs A1 c1 row W0 (q ++ [o]) (goV fin rs []) := by
 intro A0 c0 w hx hc0 hW; have huV := Tryz.underlying38; obtain ⟨x, hxq⟩ : ∃ x, q ++ [o] = x := ⟨_, rfl⟩
 rw [hxq] at hx hc0 PC hl ⊢; have hxl : x.length = q.length + 1 := by rw [<- hxq]; simp
 have hxo : x[q.length]? = some o := by rw [<- hxq]; simp
 have HX := Hd hx; have HRW := Hd hrow; have HC1 := Hd hc1; have HW := Hd hW; have PX := Hd (fun w1 h => PC A0 c0 w1 h hc0); have HIH := Hd IH; have HRS := Hd hrs; have H2 := Hd F2; have H1 := Hd F1; have H0 := Hd F0; have HXO := Hd hxo; have HXL := Hd hxl; have HL := Hd hl; clear hx hrow hc1 hW PC IH hrs F2 F1 F0 hxq hxo hxl hl; go_enter Tryz.func131, Tryz.ntmps131
 go_wp2_with (go_at_call 157; refine hold3 ?_)
 refine ⟨?_⟩; obtain ⟨wA, hwA⟩ : ∃ x, x = w.alloc (.cells #[.int .i64 0, .int .i64 0, .string ⟨#[]⟩] 65) := ⟨_, rfl⟩
 have HBA := Hd (show Below w.heap.size w wA by rw [hwA]; exact below_alloc (Below.refl _ _) _); have BA := Hd (show Bx w.heap.size wA (.int .i64 0) (.int .i64 0) (.string ⟨#[]⟩) by rw [hwA]; exact bx1 _ _ _ _ _); rw [<- hwA]; clear hwA; refine (PX.out wA (Kd.C_below HX.out HBA.out)).mono ?_; rintro e w1 ⟨Ap, cp, rfl, hps1, hb1⟩; have HPS := Hd hps1; have BR := Hd (BA.out.below hb1); have HB1 := Hd (HBA.out.trans (hb1.mono HBA.out.size)); clear hps1 hb1 BA HBA PX
 go_wp2_with (first | ((with_reducible refine gate_dst (N := 15) rfl ?_); refine Kd.R_lit kV _ tV ?hg (N := 15) ?hd (xs := ([] : List Vl)) (inner := []) (ok := fun _ => True) (okp := fun _ => True) ?hr ?hp (fun _ hk => hk) trivial (Below.refl _ _) (Nat.le_refl _) zq30 ?_; (case hd => rfl); (case hg => rfl); (case hr => first | (go_simp; done) | (go_simp; rfl)); (case hp => exact (Reps.none _ _)); intro v7 w2 ho2 hb2 hg_ hnew_; have HO2 := Hd ho2; have HB2 := Hd hb2; clear hg_ hnew_ hb2 ho2))
 go_loopw [7, 8] (fun v7 v8 wr => ∃ (i : Nat) (vs : List Th) (A7 : Option Addr) (c7 : Nat), i <= ps.length /\ v8 = .int .i64 (i : Int) /\ v7 = .slice A7 vs.length c7 /\ Aside0 (Kd.R kV tV wr w1.heap.size (fun _ => True) (.slice A7 vs.length c7) (vs.map thV)) /\ Aside0 (Below w1.heap.size w1 wr) /\ Aside0 (vs.length = i) /\ Aside0 (∀ v ∈ vs, VOk v) /\ Aside0 (goV fin rs [] = goV fin (rs.drop i) vs)) (fun v7 v8 wr => ps.length - (intOf v8).toNat)
 case atStart =>
  obtain ⟨A7, c7, rfl⟩ := Kd.R_slice HO2.out; exact ⟨0, [], A7, c7, Nat.zero_le _, rfl, rfl, ⟨HO2.out⟩, ⟨HB2.out⟩, ⟨rfl⟩, ⟨by simp⟩, ⟨by rw [List.drop_zero]⟩⟩
 case round =>
  clear HO2 HB2; obtain ⟨i, vs, A7, c7, hi, rfl, rfl, HO, HB, HN, HVS, HEQ⟩ := hrel; have HBW := Hd (HB1.out.trans (HB.out.mono HB1.out.size))
  by_cases c : i < ps.length
  ·obtain ⟨p, hp⟩ : ∃ p, ps[i] = p := ⟨_, rfl⟩
   obtain ⟨ad, Ax, cx, e1, x0, xl, xC⟩ := at_L7 (Kd.C_below HPS.out HB.out) (i : Int) zq4 zq4; have hrd : rd_L7 ps (i : Int) = p := by
    unfold rd_L7; rw [Int.toNat_natCast, List.getD_eq_getElem?_getD, List.getElem?_eq_getElem c]; exact hp
   rw [Int.toNat_natCast, hrd] at x0; rw [hrd] at xl xC; cases e1; have hri : i < rs.length := by rw [HRS.out]; exact c
   obtain ⟨rp, hrp⟩ : ∃ z, rs[i] = z := ⟨_, rfl⟩
   obtain ⟨hof, hgd⟩ := HIH.out i p rp (by rw [List.getElem?_eq_getElem c, hp]) (by rw [List.getElem?_eq_getElem hri, hrp]); have OC := Hd (hof Ax cx wr xC xl (HW.out.trans (HBW.out.mono HW.out.size))); have HST := Hd (show goV fin rs [] = goS fin (rs.drop (i + 1)) vs rp by rw [HEQ.out, List.drop_eq_getElem_cons hri, hrp, goV_cons]); have pI : (0 <= (i : Int)) = True := eq_true zq4; have qI : ((i : Int) < (ps.length : Int)) = True := eq_true zq4; clear xl xC hof hrd hp hrp hri; cases rp with
   | error er =>
    have hne : (er != 0) = true := bne_iff_ne.mpr hgd; clear hgd
    go_wp2_with (go_at_call 131; refine hold3 ?_)
    refine ⟨?_⟩; refine OC.out.mono ?_; rintro e w3 ⟨he, hb3⟩; obtain rfl : e = .returned (.tuple #[.agg #[.int .i64 0, .int .i64 0, .string ⟨#[]⟩], .int .i64 er]) := he; obtain ⟨pr0, pr1, pr2, qr0, qr1, qr2, prl⟩ := (BR.out.below HB.out).below hb3; have HB3 := Hd (HBW.out.trans (hb3.mono HBW.out.size)); clear hb3 OC; go_wp2; exact bodyPost_ret (v := .tuple #[.agg #[.int .i64 0, .int .i64 0, .string ⟨#[]⟩], .int .i64 er]) (by simp [results, Tryz.results131, go_sem, *]) rfl ⟨by rw [HST.out]; rfl, below_alloc (below_set3 HB3.out _ (Nat.le_refl _) _ _ _) _⟩
   | ok v =>
    have HGD := Hd (show VOk v from hgd); clear hgd
    go_wp2_with (go_at_call 131; refine hold3 ?_)
    refine ⟨?_⟩; refine OC.out.mono ?_; rintro e w3 ⟨he, hb3⟩; obtain rfl : e = .returned (.tuple #[.agg #[.int .i64 (thV v).f0, .int .i64 (thV v).f1, .string (thV v).f2], .int .i64 0]) := he; have HB3 := Hd (HB.out.trans (hb3.mono HB.out.size)); have HO3 := Hd (Kd.R_below HO.out hb3); have HLV := Hd (show (vs.map thV).length <= 2 by rw [List.length_map, HN.out]; omega); clear hb3 OC HO
    go_wp2_with (((with_reducible refine gate_dst (N := 38) rfl ?_); at_builtin; refine Kd.R_append kV (w0 := w1) w1.heap.size rfl (.tmp 35) (.tmp 37) 38 tV (.agg #[(.int .i64 0), (.int .i64 0), (.string ⟨#[]⟩)]) 32 rfl huV info65 rfl zq34 zq4 (.slice A7 vs.length c7) (vs.map thV) (thV v) [.int .i64 (thV v).f0, .int .i64 (thV v).f1, .string (thV v).f2] (fun _ => True) (fun _ => False) rfl (by show Value.slice (some ⟨w3.heap.size + 1, 0, none⟩) 1 1 = _; rw [World.size_alloc]) ?aP (fun _ h => h.elim) (fun _ _ => trivial) ?aO ?aB ?aS ?aL ?_; (case aP => exact k65_mkM _ _ _ (thV v)); (case aO => exact Kd.R_alloc HO3.out _); (case aB => exact below_alloc HB3.out _); (case aS => rw [World.size_alloc]; have := HB3.out.size; omega); (case aL => have := HLV.out; omega); intro v38 w4 ho hb hg_ hnew_; have HO4 := Hd ho; have HB4 := Hd hb; clear ho hb hg_ hnew_))
    rw [show vs.map thV ++ [thV v] = (vs ++ [v]).map thV by simp] at HO4; obtain ⟨A8, c8, hv8⟩ := Kd.R_slice HO4.out; rw [List.length_map] at hv8; subst hv8; go_roundw
    case rel => exact ⟨i + 1, vs ++ [v], A8, c8, by omega, by go_num, rfl, ⟨HO4.out⟩, ⟨HB4.out⟩, ⟨by rw [List.length_append, HN.out]; rfl⟩, ⟨fun x hx => (List.mem_append.1 hx).elim (HVS.out x) (fun h => by rw [List.mem_singleton] at h; rw [h]; exact HGD.out)⟩, ⟨HST.out⟩⟩
    case measure => simp [intOf]; omega
  ·obtain rfl : i = ps.length := by omega
   rw [<- HRS.out, List.drop_length, goV] at HEQ; have hl64 := HL.out; have hxl := HXL.out; obtain ⟨ad, e1, x0, x1, x2⟩ := at_T68 (Kd.C_below HX.out HBW.out) ((q.length : Nat) : Int) zq4 zq4; have hro : rd_T68 x ((q.length : Nat) : Int) = o := by
    unfold rd_T68; rw [Int.toNat_natCast, List.getD_eq_getElem?_getD, HXO.out]; rfl
   rw [Int.toNat_natCast, hro] at x0 x1 x2; cases e1; have hw1 : wrap64 ((x.length : Int) - 1) = ((q.length : Nat) : Int) := by unfold wrap64; omega
   have pK : (0 <= ((q.length : Nat) : Int)) = True := eq_true zq4; have qK : (((q.length : Nat) : Int) < (x.length : Int)) = True := eq_true zq4; have BW := Hd (BR.out.below HB.out); clear hxl hl64 hro BR; have hB1 := below_alloc (Below.refl wr.heap.size wr) (.cells #[.int .i64 o.f0, .int .i64 o.f1, .string o.f2] 68); have hB2 := below_alloc hB1 (.cells #[.int .i64 0, .int .i64 0, .string ⟨#[]⟩] tV)
   match vs, HN, HVS, HEQ, HO with
   | [], HN, HVS, HEQ, HO =>
    clear hB1 hB2
    go_wp2_with (go_at_call 159; refine hold3 ?_)
    refine ⟨?_⟩; refine (H0.out HN.out.symm _ (HW.out.trans ((below_alloc (below_alloc HBW.out _) _).mono HW.out.size))).mono ?_; rintro e w3 ⟨he, hb3⟩; obtain rfl : e = .returned (.tuple #[.agg #[.int .i64 (fin []).1, .int .i64 (fin []).2.1, .string (fin []).2.2.1], .int .i64 (fin []).2.2.2]) := he; obtain ⟨pr0, pr1, pr2, qr0, qr1, qr2, prl⟩ := (BW.out.below (below_alloc (below_alloc (Below.refl _ wr) _) _)).below hb3; have HB3 := Hd ((below_alloc (below_alloc HBW.out _) _).trans (hb3.mono (below_alloc (below_alloc HBW.out _) _).size)); clear hb3 BW; go_wp2; rw [HEQ.out]; exact bodyPost_ret (v := .tuple #[.agg #[.int .i64 (fin []).1, .int .i64 (fin []).2.1, .string (fin []).2.2.1], .int .i64 (fin []).2.2.2]) (by simp [results, Tryz.results131, go_sem, *]) rfl ⟨rfl, below_set3 HB3.out _ (Nat.le_refl _) _ _ _⟩
   | [a], HN, HVS, HEQ, HO =>
    obtain ⟨bd, e2, y0, y1, y2⟩ := at_T65 (Kd.R_reads' HO.out).2.2 0 zq34 zq30; cases e2; rw [show bd.add ((0 : Int).toNat * 3) = bd by cases bd; rfl, show rd_T65 ([a].map thV) 0 = thV a from rfl] at y0 y1 y2; replace y0 := pw_cell_below hB2 y0; replace y1 := pw_cell_below hB2 y1; replace y2 := pw_cell_below hB2 y2; clear hB1 hB2
    go_wp2_with (go_at_call 159; refine hold3 ?_)
    refine ⟨?_⟩; refine (H1.out a (HVS.out a zq30) HN.out.symm _ (HW.out.trans ((below_alloc (below_alloc HBW.out _) _).mono HW.out.size))).mono ?_; rintro e w3 ⟨he, hb3⟩; obtain rfl : e = .returned (.tuple #[.agg #[.int .i64 (fin [a]).1, .int .i64 (fin [a]).2.1, .string (fin [a]).2.2.1], .int .i64 (fin [a]).2.2.2]) := he; obtain ⟨pr0, pr1, pr2, qr0, qr1, qr2, prl⟩ := (BW.out.below (below_alloc (below_alloc (Below.refl _ wr) _) _)).below hb3; have HB3 := Hd ((below_alloc (below_alloc HBW.out _) _).trans (hb3.mono (below_alloc (below_alloc HBW.out _) _).size)); clear hb3 BW; go_wp2; rw [HEQ.out]; exact bodyPost_ret (v := .tuple #[.agg #[.int .i64 (fin [a]).1, .int .i64 (fin [a]).2.1, .string (fin [a]).2.2.1], .int .i64 (fin [a]).2.2.2]) (by simp [results, Tryz.results131, go_sem, *]) rfl ⟨rfl, below_set3 HB3.out _ (Nat.le_refl _) _ _ _⟩
   | [a, b], HN, HVS, HEQ, HO =>
    obtain ⟨bd, e2, y0, y1, y2⟩ := at_T65 (Kd.R_reads' HO.out).2.2 0 zq34 zq30; obtain ⟨bd', e2', z0, z1, z2⟩ := at_T65 (Kd.R_reads' HO.out).2.2 1 zq34 zq30; cases e2; cases e2'; rw [show bd.add ((0 : Int).toNat * 3) = bd by cases bd; rfl, show rd_T65 ([a, b].map thV) 0 = thV a from rfl] at y0 y1 y2; rw [show (1 : Int).toNat * 3 = 3 from rfl, show rd_T65 ([a, b].map thV) 1 = thV b from rfl] at z0 z1 z2; clear hB2; have k0 := (bx1 wr (.int .i64 o.f0) (.int .i64 o.f1) (.string o.f2) 68).c0; obtain ⟨wB, hwB⟩ : ∃ x, x = wr.alloc (.cells #[.int .i64 o.f0, .int .i64 o.f1, .string o.f2] 68) := ⟨_, rfl⟩
    rw [<- hwB] at hB1 k0; have KX := Hd (fun (W : World) (h : Below wB.heap.size wB W) (k : Addr) (v : Value) (hk : wr.cell? k = some v) => pw_cell_below (hB1.trans (h.mono hB1.size)) hk); have K0 := Hd (fun (W : World) (h : Below wB.heap.size wB W) => pw_cell_below h k0); have YZ := Hd (And.intro (And.intro y0 (And.intro y1 y2)) (And.intro z0 (And.intro z1 z2))); have BWB := Hd (BW.out.below hB1); have HBB := Hd (HBW.out.trans (hB1.mono HBW.out.size)); have TC := Hd (fun w => show Calls Tryz.prog 158 #[.int .i64 o.f0, .agg #[.int .i64 (thV a).f0, .int .i64 (thV a).f1, .string (thV a).f2], .agg #[.int .i64 (thV b).f0, .int .i64 (thV b).f1, .string (thV b).f2]] w fun e w' => e = .returned (.tuple #[.agg #[.int .i64 (fin [a, b]).1, .int .i64 (fin [a, b]).2.1, .string (fin [a, b]).2.2.1], .int .i64 (fin [a, b]).2.2.2]) /\ Below w.heap.size w w' from H2.out a b (HVS.out a zq30) (HVS.out b zq30) HN.out.symm w); clear y0 y1 y2 z0 z1 z2 k0 hB1 BW; go_wp2; rw [<- hwB]; clear hwB; have hbw := below_drew1 (Below.refl wB.heap.size wB); refine start_ (n := 13) (S := fun w' => Below wB.heap.size wB w' /\ w'.cell? ⟨wr.heap.size, 0, none⟩ = some (.int .i64 o.f0) /\ w'.cell? bd = some (.int .i64 (thV a).f0) /\ w'.cell? ⟨bd.block, bd.off + 1, none⟩ = some (.int .i64 (thV a).f1) /\ w'.cell? ⟨bd.block, bd.off + 2, none⟩ = some (.string (thV a).f2) /\ w'.cell? ⟨bd.block, bd.off + 3, none⟩ = some (.int .i64 (thV b).f0) /\ w'.cell? ⟨bd.block, bd.off + 3 + 1, none⟩ = some (.int .i64 (thV b).f1) /\ w'.cell? ⟨bd.block, bd.off + 3 + 2, none⟩ = some (.string (thV b).f2)) (ds := [11]) #[false, false, false, false, false, false, false, false, false, false, false, false, false] zq17 rfl rfl ⟨hbw, K0.out _ hbw, KX.out _ hbw _ _ YZ.out.1.1, KX.out _ hbw _ _ YZ.out.1.2.1, KX.out _ hbw _ _ YZ.out.1.2.2, KX.out _ hbw _ _ YZ.out.2.1, KX.out _ hbw _ _ YZ.out.2.2.1, KX.out _ hbw _ _ YZ.out.2.2.2⟩ (fun hHeld => ?_); refine with_tabW hof.tab12 hof.bits12 (fun HT_ HW_ => ?_); refine pZ 0 48 ?_; refine pZ 2 50 ?_; refine pZ 3 51 ?_; refine pZ 5 53 ?_; refine pZ 6 54 ?_; refine tZ8 1 49 ?_; refine tZ8 4 52 ?_; refine tZ8 7 55 ?_; refine oZ 8 56 (fun K hK => ?_); refine goes_ Tryz.func158 zq17 rfl #[.int .i64 o.f0, .agg #[.int .i64 (thV a).f0, .int .i64 (thV a).f1, .string (thV a).f2], .agg #[.int .i64 (thV b).f0, .int .i64 (thV b).f1, .string (thV b).f2]] (by rfl) rfl rfl zq67 ?_
    with_reducible refine (TC.out _).mono ?_
    rintro e w5 ⟨rfl, hb5⟩; refine ⟨_, rfl, ?_⟩; have hb6 := hHeld.1.trans (hb5.mono hHeld.1.size); obtain ⟨pr0, pr1, pr2, qr0, qr1, qr2, prl⟩ := BWB.out.below hb6; refine hK.out _ _ ⟨hb6, K0.out _ hb6, KX.out _ hb6 _ _ YZ.out.1.1, KX.out _ hb6 _ _ YZ.out.1.2.1, KX.out _ hb6 _ _ YZ.out.1.2.2, KX.out _ hb6 _ _ YZ.out.2.1, KX.out _ hb6 _ _ YZ.out.2.2.1, KX.out _ hb6 _ _ YZ.out.2.2.2⟩ (fun hHeld => ?_); clear hK K; refine nZ 56 ?_; refine pZ 9 57 ?_; refine pZ 10 58 ?_; refine last_ (i := 11) (N := none) #[true, true, true, true, true, true, true, true, true, true, true, true, false] rfl rfl (one_of HT_.out zq17) zq34 (fun K hK => ?_); refine skip_ (w1 := ?_) (by rfl) rfl ?_ ?_; rotate_left
    ·go_simp
     rfl
    refine hK.out _ _ ?_; clear hK K; refine pZ 12 5 ?_; refine done_ (done_of HT_.out zq17) ?_; go_wp2; rw [HEQ.out]; exact bodyPost_ret (v := .tuple #[.agg #[.int .i64 (fin [a, b]).1, .int .i64 (fin [a, b]).2.1, .string (fin [a, b]).2.2.1], .int .i64 (fin [a, b]).2.2.2]) (by simp [results, Tryz.results131, go_sem, *]) rfl ⟨rfl, below_set3 (HBB.out.trans (hb6.mono HBB.out.size)) _ (Nat.le_refl _) _ _ _⟩
   | a :: b :: c :: _, HN, HVS, HEQ, HO => exact absurd HN.out zq33
theorem r64_0 : R64 0 := by unfold R64; omega
theorem hof_T (A1 : Option Addr) (c1 : Nat) (row : List Vl) (W0 : World) (hrow : Kd.C kV W0 A1 row.length row) (hc1 : row.length <= c1) (hr : ROk row) : ∀ t : T, t.ok -> (∀ o ∈ t.fl, R64 o.f1) -> t.fl.length <= 64 -> OfIs A1 c1 row W0 t.fl (outV (t.ev row))
 | .l o, h, ho, hl => of_walk A1 c1 row W0 hrow hc1 [] o [] [] (fun _ => outV (evL row o)) hl zq30 rfl (hparts_calls (.l o) h hl) zq30 zq30 zq30 (fun _ w hb => by
   show oneCalls o.f0 o.f1 o.f2 A1 c1 row 0 0 ⟨#[]⟩ w (outV (evL row o))
   rw [<- oneV_L row hr o h.1 h.2]; exact hone_calls A1 c1 row o.f0 o.f1 0 0 o.f2 ⟨#[]⟩ w (Kd.C_below hrow hb) (fun h3 => (EvP.okW_get h.1 h3).1) r64_0)
 | .u o t, h, ho, hl => by
  have ho' : ∀ o ∈ t.fl, R64 o.f1 := fun o' h' => ho o' (by simp [T.fl, h'])
  have hl' : t.fl.length <= 64 := by simp [T.fl] at hl; omega
  have := of_walk A1 c1 row W0 hrow hc1 t.fl o [t.fl] [t.ev row] (fun vs => match vs with
   | [x] => outV (evU o.f0 x)
   | _ => outV (.error 0)) hl zq30 rfl (hparts_calls (.u o t) h hl) (fun i p r hp hq => by
    cases i with
    | zero => injection hp with hp; injection hq with hq; subst hp hq; exact ⟨hof_T A1 c1 row W0 hrow hc1 hr t h.2.2 ho' hl', good_ev row hr t h.2.2 ho'⟩
    | succ n => simp at hp) zq30 (fun a ha _ w hb => by
   show oneCalls o.f0 o.f1 o.f2 A1 c1 row (thV a).f0 (thV a).f1 (thV a).f2 w (outV (evU o.f0 a))
   rw [<- oneV_U row o h.2.1 a]; refine hone_calls A1 c1 row o.f0 o.f1 _ _ o.f2 _ w (Kd.C_below hrow hb) (fun h3 => by rcases EvP.takes_1 h.2.1 with h' | h' | h' <;> omega) ?_; cases a with
   | num n => exact ha
   | txt s => exact r64_0) zq30
  have e : outV ((T.u o t).ev row) = goV (fun vs => match vs with
   | [x] => outV (evU o.f0 x)
   | _ => outV (.error 0)) [t.ev row] [] := by
   rw [T.ev_u]; cases t.ev row <;> rfl
  rw [e]; exact this
 | .b o t s, h, ho, hl => by
  have ho1 : ∀ o ∈ t.fl, R64 o.f1 := fun o' h' => ho o' (by simp [T.fl, h'])
  have ho2 : ∀ o ∈ s.fl, R64 o.f1 := fun o' h' => ho o' (by simp [T.fl, h'])
  have hfl : (T.b o t s).fl = (t.fl ++ s.fl) ++ [o] := by simp [T.fl]
  have hl' : t.fl.length <= 64 /\ s.fl.length <= 64 := by simp [T.fl] at hl; omega
  have := of_walk A1 c1 row W0 hrow hc1 (t.fl ++ s.fl) o [t.fl, s.fl] [t.ev row, s.ev row] (fun vs => match vs with
   | [x, y] => outV (evB o.f0 x y)
   | _ => outV (.error 0)) (by rw [<- hfl]; exact hl) zq30 rfl (by rw [<- hfl]; exact hparts_calls (.b o t s) h hl) (fun i p r hp hq => by
    match i with
    | 0 => injection hp with hp; injection hq with hq; subst hp hq; exact ⟨hof_T A1 c1 row W0 hrow hc1 hr t h.2.2.1 ho1 hl'.1, good_ev row hr t h.2.2.1 ho1⟩
    | 1 => injection hp with hp; injection hq with hq; subst hp hq; exact ⟨hof_T A1 c1 row W0 hrow hc1 hr s h.2.2.2 ho2 hl'.2, good_ev row hr s h.2.2.2 ho2⟩
    | n + 2 => simp at hp) (fun a b ha hb _ w => by
    obtain ⟨k, hk⟩ := (EvP.two_R o.f0 a b ha hb (EvP.takes_2 h.2.1)).get; exact r18_two.calls k o.f0 _ _ _ _ _ _ _ _ _ _ w hk) zq30 zq30
  have e : outV ((T.b o t s).ev row) = goV (fun vs => match vs with
   | [x, y] => outV (evB o.f0 x y)
   | _ => outV (.error 0)) [t.ev row, s.ev row] [] := by
   rw [T.ev_b]; cases t.ev row with
   | error e => rfl
   | ok x => cases s.ev row <;> rfl
  rw [hfl, e]; exact this
end Go.Proofs.YtmkgecapkeojaaaGreat.Eg
end
section
namespace Go.Proofs.YtmkgecapkeojaaaGreat.Eg
open Go.Proofs.YtmkgecapkeojaaaGreat Go.Proofs.YtmkgecapkeojaaaGreat.PDa
open Go.RowKit Go.Proofs.YtmkgecapkeojaaaGreatW.PrintWords Go.Proofs.YtmkgecapkeojaaaGreatW.PrintLast Go.Proofs.YtmkgecapkeojaaaGreatW.PrintMore
open Go.Proofs.YtmkgecapkeojaaaGreat.Rw
open Go.Proofs.YtmkgecapkeojaaaGreat.EvP (evalV XOk)
theorem heval_calls (x : List Op18) (row : List Vl) (h : XOk x row) (A0 A1 : Option Addr) (c0 c1 : Nat) (w : World) (hx : Kd.C kOp w A0 x.length x) (hc0 : x.length <= c0) (hrow : Kd.C kV w A1 row.length row) (hc1 : row.length <= c1) :
  Calls Tryz.prog 89 #[.slice A0 x.length c0, .slice A1 row.length c1] w fun e w' => OutV (evalV x row) e /\ Below w.heap.size w w' := by
 obtain ⟨wA, hwA⟩ : ∃ z, z = w.alloc (.cells #[.int .i64 0, .int .i64 0, .string ⟨#[]⟩] tV) := ⟨_, rfl⟩
 have HBA := Hd (show Below w.heap.size w wA by rw [hwA]; exact below_alloc (Below.refl _ _) _); have BA := Hd (show Bx w.heap.size wA (.int .i64 0) (.int .i64 0) (.string ⟨#[]⟩) by rw [hwA]; exact bx1 _ _ _ _ _); obtain ⟨kf, hkf⟩ := (EvP.form_R x).get; obtain ⟨km, hkm⟩ := (EvP.mayR row).get; obtain ⟨f, hf⟩ : ∃ z, EvP.formV x = z := ⟨_, rfl⟩
 obtain ⟨m, hm⟩ : ∃ z, rowMay row = z := ⟨_, rfl⟩
 rw [hf] at hkf; rw [hm] at hkm; have FC := Hd (r17_Form.calls kf A0 c0 x f wA (Kd.C_below hx HBA.out) hc0 hkf); have MC := Hd (fun (W : World) (hb : Below w.heap.size w W) => r06_May.calls km A1 c1 row m W (Kd.C_below hrow hb) hc1 hkm); have OC := Hd (fun (hf0 : f = 0) (hm0 : m = true) (W : World) (hb : Below w.heap.size w W) => show Calls Tryz.prog 131 #[.slice A0 x.length c0, .slice A1 row.length c1] W fun e w' => OutV (evalV x row) e /\ Below W.heap.size W w' by
  obtain ⟨t, ht, hxt, hl⟩ := EvP.formV_0 (hf.trans hf0); rw [hxt] at hl hf hx hc0 h ⊢; rw [EvP.evalV_T t ht row (hf.trans hf0) (hm.trans hm0)]; exact hof_T A1 c1 row w hrow hc1 ⟨hm.trans hm0, h.row⟩ t ht h.x hl A0 c0 W (Kd.C_below hx hb) hc0 hb)
 have HF := Hd hf; have HM := Hd hm; clear hf hm hkf hkm hx hrow hc0 hc1; go_enter Tryz.func89, Tryz.ntmps89
 go_wp2_with (go_at_call 51; refine hold3 ?_)
 refine ⟨?_⟩; rw [<- hwA]; clear hwA; refine FC.out.mono ?_; rintro e w1 ⟨rfl, hb1⟩; have HB1 := Hd (HBA.out.trans (hb1.mono HBA.out.size)); have B1 := Hd (BA.out.below hb1); clear hb1 FC BA HBA
 by_cases h0 : f = 0
 ·subst h0
  go_wp2_with (go_at_call 69; refine hold3 ?_)
  refine ⟨?_⟩; refine (MC.out _ HB1.out).mono ?_; rintro e w2 ⟨rfl, hb2⟩; have HB2 := Hd (HB1.out.trans (hb2.mono HB1.out.size)); have B2 := Hd (B1.out.below hb2); clear hb2 B1 MC; cases m with
  | false =>
   obtain ⟨pr0, pr1, pr2, qr0, qr1, qr2, prl⟩ := B2.out; have HV := Hd (show evalV x row = (0, 0, ⟨#[]⟩, 2) by unfold evalV; rw [if_neg (by rw [HF.out]; decide), if_pos HM.out]); go_wp2; rw [HV.out]; exact bodyPost_ret (v := .tuple #[.agg #[.int .i64 0, .int .i64 0, .string ⟨#[]⟩], .int .i64 2]) (by simp [results, Tryz.results89, go_sem, *]) rfl ⟨rfl, below_set3 HB2.out _ (Nat.le_refl _) _ _ _⟩
  | true =>
   have OC2 := Hd (OC.out zq58 zq58 w2 HB2.out); clear OC
   go_wp2_with (go_at_call 131; refine hold3 ?_)
   refine ⟨?_⟩; refine OC2.out.mono ?_; rintro e w3 ⟨he, hb3⟩; obtain rfl : e = .returned (.tuple #[.agg #[.int .i64 (evalV x row).1, .int .i64 (evalV x row).2.1, .string (evalV x row).2.2.1], .int .i64 (evalV x row).2.2.2]) := he; obtain ⟨pr0, pr1, pr2, qr0, qr1, qr2, prl⟩ := B2.out.below hb3; have HB3 := Hd (HB2.out.trans (hb3.mono HB2.out.size)); clear hb3 OC2 B2; go_wp2; exact bodyPost_ret (v := .tuple #[.agg #[.int .i64 (evalV x row).1, .int .i64 (evalV x row).2.1, .string (evalV x row).2.2.1], .int .i64 (evalV x row).2.2.2]) (by simp [results, Tryz.results89, go_sem, *]) rfl ⟨rfl, below_set3 HB3.out _ (Nat.le_refl _) _ _ _⟩
 ·have hne : (f != 0) = true := bne_iff_ne.mpr h0
  have HV := Hd (show evalV x row = (0, 0, ⟨#[]⟩, f) by unfold evalV; rw [HF.out, if_pos h0]); obtain ⟨pr0, pr1, pr2, qr0, qr1, qr2, prl⟩ := B1.out; clear h0; go_wp2; rw [HV.out]; exact bodyPost_ret (v := .tuple #[.agg #[.int .i64 0, .int .i64 0, .string ⟨#[]⟩], .int .i64 f]) (by simp [results, Tryz.results89, go_sem, *]) rfl ⟨rfl, below_set3 HB1.out _ (Nat.le_refl _) _ _ _⟩
theorem hholds_calls (x : List Op18) (row : List Vl) (h : XOk x row) (A0 A1 : Option Addr) (c0 c1 : Nat) (w : World) (hx : Kd.C kOp w A0 x.length x) (hc0 : x.length <= c0) (hrow : Kd.C kV w A1 row.length row) (hc1 : row.length <= c1) :
  Calls Tryz.prog 52 #[.slice A0 x.length c0, .slice A1 row.length c1] w fun e w' => e = .returned (.tuple #[.bool (EvP.holdsV x row).1, .int .i64 (EvP.holdsV x row).2]) /\ Below w.heap.size w w' := by
 have EC := Hd (heval_calls x row h A0 A1 c0 c1 w hx hc0 hrow hc1); obtain ⟨⟨k, n, s, er⟩, hv⟩ : ∃ z, evalV x row = z := ⟨_, rfl⟩
 rw [hv] at EC; unfold EvP.holdsV; rw [hv]; clear hv hx hrow hc0 hc1 h; go_enter Tryz.func52, Tryz.ntmps52
 go_wp2_with (go_at_call 89; refine hold3 ?_)
 refine ⟨?_⟩; refine EC.out.mono ?_; rintro e w1 ⟨he, hb1⟩; obtain rfl : e = .returned (.tuple #[.agg #[.int .i64 k, .int .i64 n, .string s], .int .i64 er]) := he; have HB1 := Hd (below_alloc hb1 (.cells #[.int .i64 k, .int .i64 n, .string s] tV)); clear hb1 EC
 by_cases h0 : er = 0
 ·subst h0
  by_cases h1 : k = 1
  ·subst h1
   go_wp2; go_ret2; exact ⟨by simp, HB1.out⟩
  ·have hne : (k != 1) = true := bne_iff_ne.mpr h1
   have HN := Hd h1; clear h1; go_wp2; go_ret2; exact ⟨(by first | rfl | (rw [if_neg HN.out]; rfl)), HB1.out⟩
 ·have hne : (er != 0) = true := bne_iff_ne.mpr h0
  have HN := Hd h0; clear h0; go_wp2; go_ret2; exact ⟨(by first | rfl | (rw [if_neg HN.out]; rfl)), HB1.out⟩
end Go.Proofs.YtmkgecapkeojaaaGreat.Eg
end
section
namespace Go.Proofs.YtmkgecapkeojaaaGreat.Eg
open Go.Proofs.YtmkgecapkeojaaaGreat Go.Proofs.YtmkgecapkeojaaaGreat.PDa
open Go.RowKit Go.Proofs.YtmkgecapkeojaaaGreatW.PrintWords Go.Proofs.YtmkgecapkeojaaaGreatW.PrintLast Go.Proofs.YtmkgecapkeojaaaGreatW.PrintMore
open Go.Proofs.YtmkgecapkeojaaaGreat.Run Go.Proofs.YtmkgecapkeojaaaGreat.Rw
def rput.T4 : Bool × List (List Nat × List Nat) := (true, [([], []), ([], []), ([], []), ([1, 2], [1, 2]), ([], []), ([], []), ([4, 5], [4, 5]), ([6], [6]), ([7], [7]), ([], []), ([], []), ([9, 10], [9, 10]), ([11], [11]), ([12], [12]), ([3, 8, 13], [3, 8, 13]), ([14], [14]), ([0, 15, 3], [0, 15]), ([16, 16, 0, 1, 2, 3, 4, 5, 6, 7, 8, 9, 10, 11, 12, 13, 14, 15, 16], [0, 16])])
def rput.B4 : List Nat := [0, 0, 0, 6, 0, 0, 48, 112, 240, 0, 0, 1536, 3584, 7680, 16382, 32766, 65535, 131071]
theorem rput.tab4 : rtab .any (opsOf Tryz.f68 4) = rput.T4 := by kernel_rfl
theorem rput.bits4 : waitsOk rput.T4.2 rput.B4 = true := by kernel_rfl
theorem refput_calls (base : Nat) (ok : Nat -> Prop) (v : Value) (l : List S41) (A1 : Option Addr) (c1 : Nat) (r : List S65) (A2 : Option Addr) (c2 : Nat) (f : List S85) (w : World)
  (hR : Kd.R kE tE w base ok v l) (hbase : base <= w.heap.size) (hfresh : ∀ k, w.heap.size <= k -> ok k) (okr : Nat -> Prop) (hr : ∀ w2 : World, (∀ k, okr k -> w2.heap[k]? = w.heap[k]?) -> Kd.C kV w2 A1 r.length r) (hrd : ∀ k, okr k -> k < w.heap.size /\ some k ≠ v.ownBlock) (hf : Kd.R kJp tJ w 0 (fun _ => True) (.slice A2 f.length c2) f)
  (hrl : r.length <= 4398046511104) (hl : l.length + f.length <= 1099511627776) :
  Calls Tryz.prog 68 #[v, .slice A1 r.length c1, .slice A2 f.length c2] w fun e w' => ∃ v1, e = .returned v1 /\ Kd.R kE tE w' base ok v1 (putP l r f) /\ w.grownBy w' v.ownBlock /\ (v1.ownBlock = v.ownBlock \/ ∃ b, v1.ownBlock = some b /\ w.heap.size <= b) := by
 have hu := Tryz.underlying41; have hu39 : Tryz.prog.underlying 39 = some (.slice 65) := by kernel_rfl
 have hu22 : Tryz.prog.underlying 22 = some (.slice 41) := by kernel_rfl
 have HR := Hd hR; have HRr := Hd hr; have HRD := Hd hrd; have HRf := Hd hf; have HFR := Hd hfresh; have HB0 := Hd hbase; have HL := Hd hl; have HRL := Hd hrl; clear hR hr hrd hf hfresh hbase hl hrl; go_enter Tryz.func68, Tryz.ntmps68; go_wp2
 go_loopw [0, 7] (fun v0 v11 wr => ∃ (i : Nat), i <= f.length /\ v11 = .int .i64 (i : Int) /\ Aside0 (Kd.R kE tE wr base ok v0 (putP l r (f.take i))) /\ Aside0 (w.grownBy wr v.ownBlock) /\ Aside0 (v0.ownBlock = v.ownBlock \/ ∃ b, v0.ownBlock = some b /\ w.heap.size <= b) /\ Aside0 (Kd.R kJp tJ wr 0 (fun _ => True) (.slice A2 f.length c2) f)) (fun v0 v11 wr => f.length - (intOf v11).toNat)
 case atStart => exact ⟨0, Nat.zero_le _, rfl, ⟨by simpa [putP] using HR.out⟩, ⟨World.grownBy.refl w _⟩, ⟨.inl rfl⟩, ⟨HRf.out⟩⟩
 case round =>
  obtain ⟨i, hi, rfl, HO, HG, HAT, HRf1⟩ := hrel
  by_cases c : i < f.length
  ·obtain ⟨Y, hYj⟩ : ∃ Y, f[i] = Y := ⟨_, rfl⟩
   obtain ⟨ad, e1, x0, x1⟩ := at_T85 (Kd.R_reads' HRf1.out).2.2 (i : Int) zq4 zq4; have hrd : rd_T85 f (i : Int) = Y := by
    unfold rd_T85; rw [Int.toNat_natCast, List.getD_eq_getElem?_getD, List.getElem?_eq_getElem c]; exact hYj
   rw [Int.toNat_natCast, hrd] at x0 x1; clear hrd; cases e1; have HYj := Hd hYj; clear hYj; have hll : f.length <= 1099511627776 := by have := HL.out; omega
   have pI : (0 <= (i : Int)) = True := eq_true zq4; have qI : ((i : Int) < (f.length : Int)) = True := eq_true zq4; go_wp2; obtain ⟨wA, hwA⟩ : ∃ x, x = wr := ⟨_, rfl⟩
   have b0 : wA.drew.cell? (ad.add (i * 2)) = some (.int .i64 Y.f0) := by rw [hwA]; exact x0
   have b1 : wA.drew.cell? ⟨(ad.add (i * 2)).block, (ad.add (i * 2)).off + 1, none⟩ = some (.int .i64 Y.f1) := by rw [hwA]; exact x1
   have HBA := Hd (show Below wr.heap.size wr wA.drew by rw [hwA]; exact below_drew1 (Below.refl _ wr)); have HSA := Hd (show wA.drew.heap.size = wr.heap.size by rw [hwA]; rfl); rw [<- hwA]; clear hwA x0 x1; have HOA := Hd (Kd.R_below HO.out HBA.out); have HGA := Hd (grown_trans HG.out HAT.out (grown_below HBA.out)); have HRrA := Hd (HRr.out wA.drew (fun k hk => HGA.out.block k (HRD.out k hk).1 (HRD.out k hk).2)); have HRfA := Hd (Kd.R_below HRf1.out HBA.out); have HOW := Hd (fun k (h : u0.ownBlock = some k) => own_ltR HO.out h); clear HO HG HRf1; refine start_ (n := 18) (S := fun w' => w'.cell? (ad.add (i * 2)) = some (.int .i64 Y.f0) /\ w'.cell? ⟨(ad.add (i * 2)).block, (ad.add (i * 2)).off + 1, none⟩ = some (.int .i64 Y.f1)) (ds := [15, 16]) #[false, false, false, false, false, false, false, false, false, false, false, false, false, false, false, false, false, false] zq17 rfl rfl ⟨b0, b1⟩ (fun hHeld => ?_); refine with_tabW rput.tab4 rput.bits4 (fun HT_ HW_ => ?_); refine pZ 0 14 ?_; refine pZ 2 16 ?_; refine pZ 4 18 ?_; refine pZ 5 19 ?_; refine pZ 6 20 ?_; refine pZ 7 21 ?_; refine pZ 9 23 ?_; refine pZ 10 24 ?_; refine pZ 11 25 ?_; refine pZ 12 26 ?_; refine tZ2 8 22 ?_; refine tZ2 13 27 ?_; refine oZ 1 15 (fun K hK => ?_); refine Kd.R_lit_step kV _ tV ?hg (N := 15) ?hd (xs := ([] : List Vl)) (inner := []) (ok := fun _ => True) (okp := fun _ => True) ?hr ?hp (fun _ hk => hk) trivial (Below.refl _ _) (Nat.le_refl _) zq30 ?_
   case hd => rfl
   case hg => rfl
   case hr => first | (go_simp; done) | (go_simp; rfl)
   case hp => exact Reps.none _ _
   intro vl w3 hRl hbl hgl hnl; obtain ⟨Al, cl, rfl⟩ := Kd.R_slice hRl; have HRL3 := Hd hRl; have HBL3 := Hd hbl; clear hRl hbl hgl hnl; refine hK.out _ _ ⟨pw_cell_below HBL3.out b0, pw_cell_below HBL3.out b1⟩ (fun hHeld => ?_); clear hK K; refine nZ 15 ?_; refine oZ 3 17 (fun K hK => ?_); refine Kd.R_append_rows_step kV (w0 := wA.drew) wA.drew.heap.size (by rfl) (.tmp 15) (.tmp 16) 39 65 (.agg #[(.int .i64 0), (.int .i64 0), (.string ⟨#[]⟩)]) 32 rfl hu39 info65 rfl zq34 zq4 (.slice Al ([] : List Vl).length cl) [] r _ _ _ (fun _ => True) (fun _ => False) rfl rfl HRL3.out (Kd.C_below HRrA.out HBL3.out) (fun _ _ h => h) (fun _ h => h.elim) (fun _ _ => trivial) HBL3.out HBL3.out.size ?aL ?_
   case aL => have := HRL.out; simp only [List.length_nil, Nat.zero_add]; omega
   intro vc w4 hRc hbc hgc hatc; obtain ⟨Ac, cc, rfl⟩ := Kd.R_slice hRc; have HRC := Hd (show Kd.R kV tV w4 wA.drew.heap.size (fun _ => True) (.slice Ac r.length cc) r from hRc); have HBC := Hd hbc; clear hRc hbc hgc hatc; refine hK.out _ _ ⟨pw_cell_below HBC.out b0, pw_cell_below HBC.out b1⟩ (fun hHeld => ?_); clear hK K; refine nZ 17 ?_; refine pZ 14 28 ?_; refine last_ (i := 15) (N := some 29) #[true, true, true, true, true, true, true, true, true, true, true, true, true, true, true, true, false, false] rfl rfl (one_of HT_.out zq17) zq34 (fun K hK => ?_); refine value_ (w1 := ?_) (v := ?_) (by rfl) rfl ?_ ?_; rotate_left 2
   ·go_simp
    constructor
    ·rfl
    ·rfl
   refine hK.out _ _ ?_; clear hK K; refine nZ 29 ?_; refine last_ (i := 16) (N := some 30) #[true, true, true, true, true, true, true, true, true, true, true, true, true, true, true, true, true, false] rfl rfl (one_of HT_.out zq17) zq34 (fun K hK => ?_); refine Kd.R_append_step kE (w0 := w4) base (by rfl) (.tmp 14) (.tmp 29) 22 41 (.agg #[.slice none 0 0, (.int .i64 0), (.int .i64 0)]) 40 rfl hu22 info41 rfl zq34 zq4 u0 (putP l r (f.take i)) ⟨r, Y.f0, Y.f1⟩ [.slice Ac r.length cc, .int .i64 Y.f0, .int .i64 Y.f1] ok (fun k => wA.drew.heap.size <= k) rfl rfl ?aP ?aK ?aF ?aO (Below.refl _ _) ?aS ?aL ?_
   case aP => exact k41_mkM _ _ _ ⟨r, Y.f0, Y.f1⟩ (Kd.R_mono (Kd.R_lower (Kd.R_bound HRC.out) (by have := HB0.out; have := HGA.out.size; omega)) (fun _ h => h.2.1))
   case aK => exact fun k hk => ⟨HFR.out k (by have := HGA.out.size; omega), fun e' => by have := (HOW.out k e'.symm).2; have := HSA.out; omega⟩
   case aF => exact fun k hk => HFR.out k (by have := HGA.out.size; have := HBC.out.size; omega)
   case aO => exact Kd.R_below HOA.out HBC.out
   case aS => have := HB0.out; have := HGA.out.size; have := HBC.out.size; omega
   case aL => have := HL.out; rw [putP, List.length_append, List.length_map, List.length_take]; omega
   intro v1 w1 ho hb hg hat; have HO1 := Hd ho; have HG1 := Hd hg; have HAT1 := Hd hat; clear ho hb hg hat; refine hK.out _ _ ?_; clear hK K; refine nZ 30 ?_; refine pZ 17 0 ?_; refine done_ (done_of HT_.out zq17) ?_; go_wp2; go_roundw
   case rel =>
    refine ⟨i + 1, by omega, by go_num, ⟨?_⟩, ⟨?_⟩, ⟨?_⟩, ⟨?_⟩⟩
    ·have := HO1.out
     rw [show putP l r (f.take (i + 1)) = putP l r (f.take i) ++ [⟨r, Y.f0, Y.f1⟩] by unfold putP; rw [List.take_add_one, List.getElem?_eq_getElem c, HYj.out]; simp]; exact this
    ·exact grown_trans HGA.out HAT.out (grown_step HBC.out HG1.out)
    ·exact own_at_trans HAT.out (HGA.out.size) HBC.out.size HAT1.out
    ·exact R_grown (Kd.R_below HRfA.out HBC.out) (Kd.R_below HOA.out HBC.out) zq34 HG1.out
   case measure => simp [intOf]; omega
  ·obtain rfl : i = f.length := by omega
   go_wp2; go_ret; refine ⟨_, rfl, ?_, HG.out, HAT.out⟩; have := HO.out; rw [List.take_length] at this; exact this
end Go.Proofs.YtmkgecapkeojaaaGreat.Eg
end
