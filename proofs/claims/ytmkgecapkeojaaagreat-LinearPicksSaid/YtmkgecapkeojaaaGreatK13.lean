/- Texts of this claim, put together by a program: Pick, PickW, RefPick, LiveP, LawFW, LawK, WSized. -/
import Derived.Test.YtmkgecapkeojaaaGreatK12
import Derived.SizedLaws
import Derived.ChangeSlices
set_option linter.unusedVariables false
set_option linter.unusedSimpArgs false
set_option maxHeartbeats 8000000
set_option maxRecDepth 100000
section
namespace Go.Proofs.YtmkgecapkeojaaaGreat.Eg
open Go.Proofs.YtmkgecapkeojaaaGreat Go.Proofs.YtmkgecapkeojaaaGreat.PDa
open Go.RowKit Go.Proofs.YtmkgecapkeojaaaGreatW.PrintWords Go.Proofs.YtmkgecapkeojaaaGreatW.PrintLast Go.Proofs.YtmkgecapkeojaaaGreatW.PrintMore
open Go.Proofs.YtmkgecapkeojaaaGreat.Rw Go.Proofs.YtmkgecapkeojaaaGreat.Run
abbrev kI := Kd.int .i64
def pickL (r : List Vl) (out : List Vl) : List Int → List Vl × Int
 | [] => (out, 0)
 | c :: cs => if c < 0 then ([], 3) else if (r.length : Int) ≤ c then ([], 3) else pickL r (out ++ [rd_T65 r c]) cs
def pickV (cols : List Int) (r : List Vl) : List Vl × Int := if rowMay r = true then (if 8 < cols.length then ([], 6) else pickL r [] cols) else ([], 2)
theorem pickL_drop (r out : List Vl) (cs : List Int) (i : Nat) (h : i < cs.length) : pickL r out (cs.drop i) = if cs[i] < 0 then ([], 3) else if (r.length : Int) ≤ cs[i] then ([], 3) else pickL r (out ++ [rd_T65 r cs[i]]) (cs.drop (i + 1)) := by
 rw [List.drop_eq_getElem_cons h, pickL]
abbrev PickIs (F : Nat) (r : List Vl) (cols : List Int) (A0 A1 : Option Addr) (c0 c1 : Nat) (w : World) : Prop :=
 Calls Tryz.prog F #[.slice A0 r.length c0, .slice A1 cols.length c1] w fun e w' => ∃ v, e = .returned (.tuple #[v, .int .i64 (pickV cols r).2]) ∧ Kd.R kV tV w' w.heap.size (fun _ => True) v (pickV cols r).1 ∧ Below w.heap.size w w'
theorem rowPick_calls (r : List Vl) (cols : List Int) (A0 A1 : Option Addr) (c0 c1 : Nat) (w : World) (hr : Kd.C kV w A0 r.length r) (hc : r.length ≤ c0) (hcs : Kd.C kI w A1 cols.length cols) : PickIs 72 r cols A0 A1 c0 c1 w := by
  have hu39 := Tryz.underlying39; have MC := Lib.hid (row_May.calls A0 c0 r _ w hr hc rfl); have HR := Lib.hid hr; have HCS := Lib.hid hcs; obtain ⟨m, hm⟩ : ∃ m, rowMay r = m := ⟨_, rfl⟩
  rw [hm] at MC; have HM := Lib.hid hm; clear hr hc hcs hm; cases m with
  | false =>
    have HV := Lib.hid (show pickV cols r = ([], 2) by unfold pickV; rw [if_neg (by rw [HM.out]; decide)]); go_enter Tryz.func72, Tryz.ntmps72
    go_wp2_with (go_at_call 77; refine hold3 ?_)
    refine ⟨?_⟩; refine MC.out.mono ?_; rintro e w1 ⟨rfl, hb1⟩; go_wp2; go_ret2; rw [HV.out]; exact ⟨_, rfl, Kd.R_nil _ _ _ _ _, hb1⟩
  | true =>
    by_cases h8 : 8 < cols.length
    · have b8 : decide ((cols.length : Int) > 8) = true := decide_eq_true zq4
      have HV := Lib.hid (show pickV cols r = ([], 6) by unfold pickV; rw [if_pos HM.out, if_pos h8]); clear h8; go_enter Tryz.func72, Tryz.ntmps72
      go_wp2_with (go_at_call 77; refine hold3 ?_)
      refine ⟨?_⟩; refine MC.out.mono ?_; rintro e w1 ⟨rfl, hb1⟩; go_wp2; go_ret2; rw [HV.out]; exact ⟨_, rfl, Kd.R_nil _ _ _ _ _, hb1⟩
    · have b8 : decide ((cols.length : Int) > 8) = false := decide_eq_false zq4
      have HL := Lib.hid (show cols.length ≤ 8 by omega); have HV := Lib.hid (show pickV cols r = pickL r [] cols by unfold pickV; rw [if_pos HM.out, if_neg h8]); clear h8; go_enter Tryz.func72, Tryz.ntmps72
      go_wp2_with (go_at_call 77; refine hold3 ?_)
      refine ⟨?_⟩; refine MC.out.mono ?_; rintro e w1 ⟨rfl, hb1⟩; have HB1 := Lib.hid hb1; clear hb1 MC; obtain ⟨i0, hi0, hz0, hz1, hz2⟩ := info_parts info65; go_wp2_with (at_make; (refine wpList_make_own _ rfl _ _ _ rfl w1.heap.size tV i0 _ 3 hu39 hi0 hz0 hz1 _ _ _ cols.length rfl rfl rfl ?b1 ?b2 ?b3 ?_)); (case b1 => have := HL.out; rw [hz2]; omega); (case b2 => have := HL.out; unfold maxLen; omega); (case b3 => exact Nat.le_refl _); intro w2 hown hgrow; have HO2 := Lib.hid (Kd.R_lower (show Kd.R kV tV w2 w1.heap.size (fun _ => True) (.slice (some ⟨w1.heap.size, 0, none⟩) 0 cols.length) [] from ⟨fun _ _ => trivial, [], hown, Reps.none _ _⟩) HB1.out.size); have HB2 := Lib.hid (HB1.out.trans ((show Below w1.heap.size w1 w2 from ⟨hgrow.os, hgrow.tape, hgrow.output, hgrow.size, fun b hb => hgrow.block b hb (fun h => by cases h)⟩).mono HB1.out.size)); clear hown hgrow hi0 hz0 hz1 hz2; go_wp2
      go_loopw [6, 22] (fun v6 vi wr => ∃ (i : Nat) (out : List Vl) (A6 : Option Addr) (c6 : Nat), i ≤ cols.length ∧ vi = .int .i64 (i : Int) ∧ v6 = .slice A6 out.length c6 ∧ Aside0 (Kd.R kV tV wr w.heap.size (fun _ => True) (.slice A6 out.length c6) out) ∧ Aside0 (Below w.heap.size w wr) ∧ Aside0 (out.length = i) ∧ Aside0 (pickV cols r = pickL r out (cols.drop i))) (fun v6 vi wr => cols.length - (intOf vi).toNat)
      case atStart => exact ⟨0, [], _, _, Nat.zero_le _, rfl, rfl, ⟨HO2.out⟩, ⟨HB2.out⟩, ⟨rfl⟩, ⟨by rw [HV.out, List.drop_zero]⟩⟩
      case round =>
        clear HO2 HB2; obtain ⟨i, out, A6, c6, hi, rfl, rfl, HO, HB, HN, HEQ⟩ := hrel; have h8 := HL.out
        by_cases c : i < cols.length
        · obtain ⟨n, hn⟩ : ∃ n, cols[i] = n := ⟨_, rfl⟩
          obtain ⟨ad, e1, x0⟩ := Kd.at_int (Kd.C_below HCS.out HB.out) (i : Int) zq4 zq4; have hrd : rd cols (i : Int) = n := by
            unfold rd; rw [Int.toNat_natCast, List.getD_eq_getElem?_getD, List.getElem?_eq_getElem c]; exact hn
          rw [Int.toNat_natCast, hrd] at x0; cases e1; have HST := Lib.hid (show pickV cols r = if n < 0 then ([], 3) else if (r.length : Int) ≤ n then ([], 3) else pickL r (out ++ [rd_T65 r n]) (cols.drop (i + 1)) by rw [HEQ.out, pickL_drop r out cols i c, hn]); have pI : (0 ≤ (i : Int)) = True := eq_true zq4; have qI : ((i : Int) < (cols.length : Int)) = True := eq_true zq4; have hwr := wrapN i zq4; clear hrd hn
          by_cases h1 : n < 0
          · have b1 : decide (n < 0) = true := decide_eq_true h1
            have HE := Lib.hid (show pickV cols r = ([], 3) by rw [HST.out, if_pos h1]); clear h1; go_wp2; go_ret2; rw [HE.out]; exact ⟨_, rfl, Kd.R_nil _ _ _ _ _, HB.out⟩
          · have b1 : decide (n < 0) = false := decide_eq_false h1
            by_cases h2 : (r.length : Int) ≤ n
            · have b2 : decide (n ≥ (r.length : Int)) = true := decide_eq_true h2
              have HE := Lib.hid (show pickV cols r = ([], 3) by rw [HST.out, if_neg h1, if_pos h2]); clear h1 h2; go_wp2; go_ret2; rw [HE.out]; exact ⟨_, rfl, Kd.R_nil _ _ _ _ _, HB.out⟩
            · have b2 : decide (n ≥ (r.length : Int)) = false := decide_eq_false h2
              obtain ⟨bd, e2, y0, y1, y2⟩ := at_T65 (Kd.C_below HR.out HB.out) n zq4 zq4; cases e2; obtain ⟨X, hX⟩ : ∃ X, rd_T65 r n = X := ⟨_, rfl⟩
              rw [hX] at y0 y1 y2 HST; have HEN := Lib.hid (show pickV cols r = pickL r (out ++ [X]) (cols.drop (i + 1)) by rw [HST.out, if_neg h1, if_neg h2]); have p0 : (0 ≤ n) = True := eq_true zq4; have p1 : (n < (r.length : Int)) = True := eq_true zq4; clear h1 h2 hX HST
              go_wp2_with (((with_reducible refine gate_dst (N := 40) rfl ?_); at_builtin; refine Kd.R_append kV (w0 := w) w.heap.size rfl (.tmp 34) (.tmp 39) 39 tV (.agg #[(.int .i64 0), (.int .i64 0), (.string ⟨#[]⟩)]) 32 rfl hu39 info65 rfl zq34 zq4 (.slice A6 out.length c6) out X [.int .i64 X.f0, .int .i64 X.f1, .string X.f2] (fun _ => True) (fun _ => False) rfl rfl ?aP (fun _ h => h.elim) (fun _ _ => trivial) ?aO ?aB ?aS ?aL ?_; (case aP => exact k65_mkM _ _ _ X); (case aO => exact HO.out); (case aB => exact HB.out); (case aS => exact HB.out.size); (case aL => have := HN.out; have := HL.out; omega); intro vA w4 ho hb hg_ hnew_; have HO4 := Lib.hid ho; have HB4 := Lib.hid hb; clear ho hb hg_ hnew_))
              obtain ⟨A8, c8, rfl⟩ := Kd.R_slice HO4.out; go_roundw
              case rel => exact ⟨i + 1, out ++ [X], A8, c8, by omega, (by first | rw [hwr] | go_num), rfl, ⟨HO4.out⟩, ⟨HB4.out⟩, ⟨by rw [List.length_append, HN.out]; rfl⟩, ⟨HEN.out⟩⟩
              case measure => first | rw [hwr] | skip
                              simp [intOf]; omega
        · obtain rfl : i = cols.length := by omega
          have HE := Lib.hid (show pickV cols r = (out, 0) by rw [HEQ.out, List.drop_length]; rfl); go_wp2; go_ret2; rw [HE.out]; exact ⟨_, rfl, HO.out, HB.out⟩
theorem refPick_calls (r : List Vl) (cols : List Int) (A0 A1 : Option Addr) (c0 c1 : Nat) (w : World) (hr : Kd.C kV w A0 r.length r) (hc : r.length ≤ c0) (hcs : Kd.C kI w A1 cols.length cols) : PickIs 73 r cols A0 A1 c0 c1 w := by
  have hu39 := Tryz.underlying39; obtain ⟨km, hkm⟩ := (EvP.mayR r).get; have MC := Lib.hid (r06_May.calls km A0 c0 r _ w hr hc hkm)
  have HR := Lib.hid hr; have HCS := Lib.hid hcs; obtain ⟨m, hm⟩ : ∃ m, rowMay r = m := ⟨_, rfl⟩
  rw [hm] at MC; have HM := Lib.hid hm; clear hr hc hcs hm; cases m with
  | false =>
    have HV := Lib.hid (show pickV cols r = ([], 2) by unfold pickV; rw [if_neg (by rw [HM.out]; decide)]); go_enter Tryz.func73, Tryz.ntmps73
    go_wp2_with (go_at_call 69; refine hold3 ?_)
    refine ⟨?_⟩; refine MC.out.mono ?_; rintro e w1 ⟨rfl, hb1⟩; go_wp2; go_ret2; rw [HV.out]; exact ⟨_, rfl, Kd.R_nil _ _ _ _ _, hb1⟩
  | true =>
    by_cases h8 : 8 < cols.length
    · have b8 : decide ((cols.length : Int) > 8) = true := decide_eq_true zq4
      have HV := Lib.hid (show pickV cols r = ([], 6) by unfold pickV; rw [if_pos HM.out, if_pos h8]); clear h8; go_enter Tryz.func73, Tryz.ntmps73
      go_wp2_with (go_at_call 69; refine hold3 ?_)
      refine ⟨?_⟩; refine MC.out.mono ?_; rintro e w1 ⟨rfl, hb1⟩; go_wp2; go_ret2; rw [HV.out]; exact ⟨_, rfl, Kd.R_nil _ _ _ _ _, hb1⟩
    · have b8 : decide ((cols.length : Int) > 8) = false := decide_eq_false zq4
      have HL := Lib.hid (show cols.length ≤ 8 by omega); have HV := Lib.hid (show pickV cols r = pickL r [] cols by unfold pickV; rw [if_pos HM.out, if_neg h8]); clear h8; go_enter Tryz.func73, Tryz.ntmps73
      go_wp2_with (go_at_call 69; refine hold3 ?_)
      refine ⟨?_⟩; refine MC.out.mono ?_; rintro e w1 ⟨rfl, hb1⟩; have HB1 := Lib.hid hb1; clear hb1 MC
      go_wp2_with (((with_reducible refine gate_dst (N := 14) rfl ?_); refine Kd.R_lit kV _ tV ?hg (N := 14) ?hd (xs := ([] : List Vl)) (inner := []) (ok := fun _ => True) (okp := fun _ => True) ?hr ?hp (fun _ hk => hk) trivial (Below.refl _ _) (Nat.le_refl _) zq30 ?_; (case hd => rfl); (case hg => rfl); (case hr => first | (go_simp; done) | (go_simp; rfl)); (case hp => exact (Reps.none _ _)); intro v6 w2 ho2 hb2 hg_ hnew_; have HO2 := Lib.hid (Kd.R_lower ho2 HB1.out.size); have HB2 := Lib.hid (HB1.out.trans (hb2.mono HB1.out.size)); clear hg_ hnew_ hb2 ho2))
      go_loopw [6, 7] (fun v6 vi wr => ∃ (i : Nat) (out : List Vl) (A6 : Option Addr) (c6 : Nat), i ≤ cols.length ∧ vi = .int .i64 (i : Int) ∧ v6 = .slice A6 out.length c6 ∧ Aside0 (Kd.R kV tV wr w.heap.size (fun _ => True) (.slice A6 out.length c6) out) ∧ Aside0 (Below w.heap.size w wr) ∧ Aside0 (out.length = i) ∧ Aside0 (pickV cols r = pickL r out (cols.drop i))) (fun v6 vi wr => cols.length - (intOf vi).toNat)
      case atStart => exact (Kd.R_slice HO2.out).elim fun A6 h => h.elim fun c6 h => by subst h; exact ⟨0, [], A6, c6, Nat.zero_le _, rfl, rfl, ⟨HO2.out⟩, ⟨HB2.out⟩, ⟨rfl⟩, ⟨by rw [HV.out, List.drop_zero]⟩⟩
      case round =>
        clear HO2 HB2; obtain ⟨i, out, A6, c6, hi, rfl, rfl, HO, HB, HN, HEQ⟩ := hrel; have h8 := HL.out
        by_cases c : i < cols.length
        · obtain ⟨n, hn⟩ : ∃ n, cols[i] = n := ⟨_, rfl⟩
          obtain ⟨ad, e1, x0⟩ := Kd.at_int (Kd.C_below HCS.out HB.out) (i : Int) zq4 zq4; have hrd : rd cols (i : Int) = n := by
            unfold rd; rw [Int.toNat_natCast, List.getD_eq_getElem?_getD, List.getElem?_eq_getElem c]; exact hn
          rw [Int.toNat_natCast, hrd] at x0; cases e1; have HST := Lib.hid (show pickV cols r = if n < 0 then ([], 3) else if (r.length : Int) ≤ n then ([], 3) else pickL r (out ++ [rd_T65 r n]) (cols.drop (i + 1)) by rw [HEQ.out, pickL_drop r out cols i c, hn]); have pI : (0 ≤ (i : Int)) = True := eq_true zq4; have qI : ((i : Int) < (cols.length : Int)) = True := eq_true zq4; have hwr := wrapN i zq4; clear hrd hn
          by_cases h1 : n < 0
          · have b1 : decide (n < 0) = true := decide_eq_true h1
            have HE := Lib.hid (show pickV cols r = ([], 3) by rw [HST.out, if_pos h1]); clear h1; go_wp2; go_ret2; rw [HE.out]; exact ⟨_, rfl, Kd.R_nil _ _ _ _ _, HB.out⟩
          · have b1 : decide (n < 0) = false := decide_eq_false h1
            by_cases h2 : (r.length : Int) ≤ n
            · have b2 : decide (n ≥ (r.length : Int)) = true := decide_eq_true h2
              have HE := Lib.hid (show pickV cols r = ([], 3) by rw [HST.out, if_neg h1, if_pos h2]); clear h1 h2; go_wp2; go_ret2; rw [HE.out]; exact ⟨_, rfl, Kd.R_nil _ _ _ _ _, HB.out⟩
            · have b2 : decide (n ≥ (r.length : Int)) = false := decide_eq_false h2
              obtain ⟨bd, e2, y0, y1, y2⟩ := at_T65 (Kd.C_below HR.out HB.out) n zq4 zq4; cases e2; obtain ⟨X, hX⟩ : ∃ X, rd_T65 r n = X := ⟨_, rfl⟩
              rw [hX] at y0 y1 y2 HST; have HEN := Lib.hid (show pickV cols r = pickL r (out ++ [X]) (cols.drop (i + 1)) by rw [HST.out, if_neg h1, if_neg h2]); have p0 : (0 ≤ n) = True := eq_true zq4; have p1 : (n < (r.length : Int)) = True := eq_true zq4; clear h1 h2 hX HST
              go_wp2_with (((with_reducible refine gate_dst (N := 44) rfl ?_); at_builtin; refine Kd.R_append kV (w0 := w) w.heap.size rfl (.tmp 35) (.tmp 43) 39 tV (.agg #[(.int .i64 0), (.int .i64 0), (.string ⟨#[]⟩)]) 32 rfl hu39 info65 rfl zq34 zq4 (.slice A6 out.length c6) out X [.int .i64 X.f0, .int .i64 X.f1, .string X.f2] (fun _ => True) (fun _ => False) rfl rfl ?aP (fun _ h => h.elim) (fun _ _ => trivial) ?aO ?aB ?aS ?aL ?_; (case aP => exact k65_mkM _ _ _ X); (case aO => exact HO.out); (case aB => exact HB.out); (case aS => exact HB.out.size); (case aL => have := HN.out; have := HL.out; omega); intro vA w4 ho hb hg_ hnew_; have HO4 := Lib.hid ho; have HB4 := Lib.hid hb; clear ho hb hg_ hnew_))
              obtain ⟨A8, c8, rfl⟩ := Kd.R_slice HO4.out; go_roundw
              case rel => exact ⟨i + 1, out ++ [X], A8, c8, by omega, (by first | rw [hwr] | go_num), rfl, ⟨HO4.out⟩, ⟨HB4.out⟩, ⟨by rw [List.length_append, HN.out]; rfl⟩, ⟨HEN.out⟩⟩
              case measure => first | rw [hwr] | skip
                              simp [intOf]; omega
        · obtain rfl : i = cols.length := by omega
          have HE := Lib.hid (show pickV cols r = (out, 0) by rw [HEQ.out, List.drop_length]; rfl); go_wp2; go_ret2; rw [HE.out]; exact ⟨_, rfl, HO.out, HB.out⟩
theorem pick1_calls (r : List Vl) (cols : List Int) (bx : Nat) (A0 A1 : Option Addr) (c0 c1 : Nat) (w : World) (hbx : w.cell? ⟨bx, 0, none⟩ = some (.slice A1 cols.length c1)) (hr : Kd.C kV w A0 r.length r) (hc : r.length ≤ c0) (hcs : Kd.C kI w A1 cols.length cols) :
  Calls Tryz.prog 71 #[.slice A0 r.length c0, .pointer (some ⟨bx, 0, none⟩)] w fun e w' => ∃ v, e = .returned (.tuple #[v, .int .i64 (pickV cols r).2]) ∧ Kd.R kV tV w' w.heap.size (fun _ => True) v (pickV cols r).1 ∧ Below w.heap.size w w' := by
 have PC := Lib.hid (rowPick_calls r cols A0 A1 c0 c1 w hr hc hcs); clear hr hc hcs; go_enter Tryz.func71, Tryz.ntmps71
 go_wp2_with (go_at_call 72; refine hold3 ?_)
 refine ⟨?_⟩; refine PC.out.mono ?_; rintro e w1 ⟨v, rfl, h1, h2⟩; go_wp2; go_ret2; exact ⟨v, rfl, h1, h2⟩
end Go.Proofs.YtmkgecapkeojaaaGreat.Eg
end
section
namespace Go.Proofs.YtmkgecapkeojaaaGreat.Eg
open Go.Proofs.YtmkgecapkeojaaaGreat Go.Proofs.YtmkgecapkeojaaaGreat.PDa
open Go.RowKit Go.Proofs.YtmkgecapkeojaaaGreatW.PrintWords Go.Proofs.YtmkgecapkeojaaaGreatW.PrintLast Go.Proofs.YtmkgecapkeojaaaGreatW.PrintMore
open Go.Proofs.YtmkgecapkeojaaaGreat.Stp Go.Proofs.YtmkgecapkeojaaaGreat.Run Go.Proofs.YtmkgecapkeojaaaGreat.Rw Go.Proofs.YtmkgecapkeojaaaGreat.SortM Go.Proofs.YtmkgecapkeojaaaGreat.SortP
theorem pickL_ok (r : List Vl) (hr : rowMay r = true) : ∀ (cs : List Int) (out : List Vl), out.length + cs.length ≤ 8 → (∀ v ∈ out, (thOf v.f0 v.f1 v.f2).isSome = true) → rowMay (pickL r out cs).1 = true
 | [], out, hl, ho => by
  unfold rowMay; rw [pickL, Bool.and_eq_true]; exact ⟨decide_eq_true (by simpa using hl), List.all_eq_true.2 ho⟩
 | c :: cs, out, hl, ho => by
  rw [pickL]
  split
  ·rfl
  ·split
   ·rfl
   ·rename_i h1 h2
    refine pickL_ok r hr cs _ (by simp at hl ⊢; omega) (fun v hv => ?_); rw [List.mem_append, List.mem_singleton] at hv
    rcases hv with hv | rfl
    ·exact ho v hv
    ·have hlt : c.toNat < r.length := by omega
     have : rd_T65 r c = r[c.toNat] := by
      unfold rd_T65; rw [List.getD_eq_getElem?_getD, List.getElem?_eq_getElem hlt]; rfl
     rw [this]; unfold rowMay at hr; rw [Bool.and_eq_true] at hr; exact List.all_eq_true.1 hr.2 _ (List.getElem_mem hlt)
theorem pickV_ok (cols : List Int) (r : List Vl) (hr : rowMay r = true) : rowMay (pickV cols r).1 = true := by
 unfold pickV; rw [if_pos hr]
 split
 ·rfl
 ·exact pickL_ok r hr cols [] zq33 zq30
def pickD (cols : List Int) (l : List EdP) : List EdP × Int :=
 if mayE l = true then (if (madeL (pickV cols) [] l).2 ≠ 0 then ([], (madeL (pickV cols) [] l).2) else normV (madeL (pickV cols) [] l).1) else ([], 2)
theorem pickD_is (cols : List Int) (l : List EdP) (h : mayE l = true) : becV (pickV cols) l = pickD cols l := by
 unfold becV pickD; rw [if_pos h, bec_all (pickV cols) l h (fun r hr _ _ => pickV_ok cols r hr)]
theorem Pick_calls (A0 A1 : Option Addr) (c0 c1 : Nat) (l : List EdP) (cols : List Int) (w : World) (hr0 : Kd.C kE w A0 l.length l) (hrow : ∀ e ∈ l, e.f0.length ≤ 4398046511104) (hcs : Kd.C kI w A1 cols.length cols) :
  Calls Tryz.prog 34 #[.slice A0 l.length c0, .slice A1 cols.length c1] w fun e w' => ∃ v, e = .returned (.tuple #[v, .int .i64 (pickD cols l).2]) ∧ Kd.R kE tE w' w.heap.size (fun _ => True) v (pickD cols l).1 ∧ Below w.heap.size w w' := by
 have hmf : ∀ (fn : Fn) (first cap : Array Value) (w : World), (Instr.makeFunc fn first cap).run Tryz.prog w = .ok (.func fn first cap) w := fun _ _ _ _ => rfl
 have MC := Lib.hid (fun (w1 : World) (h : Below w.heap.size w w1) => May_calls A0 c0 l w1 (Kd.C_below hr0 h) hrow); have HR := Lib.hid hr0; have HCS := Lib.hid hcs; have HRW := Lib.hid hrow; have HBA := Lib.hid (below_alloc (Below.refl _ w) (.cells #[.slice A1 cols.length c1] 53 (0, 0))); have HBX := Lib.hid (show Boxed (w.alloc (.cells #[.slice A1 cols.length c1] 53 (0, 0))) w.heap.size 53 (.slice A1 cols.length c1) from blk_new w _); clear hr0 hrow hcs; obtain ⟨m, hm⟩ : ∃ m, mayE l = m := ⟨_, rfl⟩
 rw [hm] at MC; have HM := Lib.hid hm; clear hm; go_enter Tryz.func34, Tryz.ntmps34; cases m with
 | false =>
  have HV := Lib.hid (show pickD cols l = ([], 2) by unfold pickD; rw [if_neg (by rw [HM.out]; decide)])
  go_wp2_with ((with_reducible refine (MC.out _ HBA.out).mono ?_); rintro e w1 ⟨rfl, hb1⟩; have HB1 := Lib.hid (HBA.out.trans (hb1.mono HBA.out.size)); clear hb1)
  go_ret2; rw [HV.out]; exact ⟨_, rfl, Kd.R_nil _ _ _ _ _, HB1.out⟩
 | true =>
  go_wp2_with (go_at_call 46; refine hold3 ?_)
  refine ⟨?_⟩; refine (MC.out _ HBA.out).mono ?_; rintro e w1 ⟨rfl, hb1⟩; have HB1 := Lib.hid (HBA.out.trans (hb1.mono HBA.out.size)); have HBX1 := Lib.hid (Boxed.below HBX.out hb1); have cl3 := HBX1.out.cell; have BC := Lib.hid (become_calls (pickV cols) 71 #[.pointer (some ⟨w.heap.size, 0, none⟩)] A0 c0 l w1 (Kd.C_below HR.out HB1.out) HM.out HRW.out (enters_of Tryz.func71 zq17 rfl)
   (fun e0 he0 A c W1 hb hR => (pick1_calls e0.f0 cols w.heap.size A A1 c c1 W1 ((Boxed.below HBX1.out hb).cell) (Kd.R_reads' hR).2.2 (Kd.R_reads' hR).2.1 (Kd.C_below HCS.out (HB1.out.trans (hb.mono HB1.out.size)))).mono fun e w' ⟨v, h1, h2, h3⟩ => ⟨v, h1, Kd.R_lower h2 (Nat.zero_le _), h3⟩))
  clear hb1 HBX HBA MC
  go_wp2_with ((with_reducible refine BC.out.mono ?_); rintro e w6 ⟨v6, r6, hbec, rfl, hR6, hb6⟩; have HRES := Lib.hid ((bec_is hbec).trans (pickD_is cols l HM.out)); have HR6 := Lib.hid hR6; have HB6 := Lib.hid (HB1.out.trans (hb6.mono HB1.out.size)); have HSZ := Lib.hid HB1.out.size; clear hR6 hb6 hbec)
  go_ret2; rw [← HRES.out]; exact ⟨v6, rfl, Kd.R_lower HR6.out HSZ.out, HB6.out⟩
theorem refadd_calls (A0 A1 : Option Addr) (c0 c1 : Nat) (a b : List EdP) (w : World) (hr0 : Kd.C kE w A0 a.length a) (hc0 : a.length ≤ c0) (hr1 : Kd.C kE w A1 b.length b) (hc1 : b.length ≤ c1) (hl : a.length + b.length ≤ 1024) (hw0 : ∀ e ∈ a, e.f0.length ≤ 4398046511104) (hw1 : ∀ e ∈ b, e.f0.length ≤ 4398046511104) :
  Calls Tryz.prog 37 #[.slice A0 a.length c0, .slice A1 b.length c1] w fun e w' => ∃ v, e = .returned (.tuple #[v, .int .i64 (addV a b).2]) ∧ Kd.R kE tE w' w.heap.size (fun _ => True) v (addV a b).1 ∧ Below w.heap.size w w' := by
 have hu22 : Tryz.prog.underlying 22 = some (.slice 41) := by kernel_rfl
 have MA := Lib.hid (hmay_calls A0 c0 a w hr0 hc0 zq4 hw0); have MB := Lib.hid (fun (W : World) (h : Below w.heap.size w W) => hmay_calls A1 c1 b W (Kd.C_below hr1 h) hc1 zq4 hw1); have HA := Lib.hid hr0; have HB := Lib.hid hr1; have HL := Lib.hid hl; obtain ⟨ma, hma⟩ : ∃ m, mayE a = m := ⟨_, rfl⟩
 obtain ⟨mb, hmb⟩ : ∃ m, mayE b = m := ⟨_, rfl⟩
 rw [hma] at MA; rw [hmb] at MB; have HV := Lib.hid (show addV a b = if (ma && mb) = true then normV (a ++ b) else ([], 2) by unfold addV; rw [hma, hmb]); clear hr0 hc0 hr1 hc1 hl hw0 hw1 hma hmb; go_enter Tryz.func37, Tryz.ntmps37
 go_wp2_with (go_at_call 50; refine hold3 ?_)
 refine ⟨?_⟩; refine MA.out.mono ?_; rintro e w1 ⟨rfl, hb1⟩; have HB1 := Lib.hid hb1; clear hb1 MA; cases ma with
 | false =>
  go_wp2; go_ret2; rw [HV.out]; exact ⟨_, rfl, Kd.R_nil _ _ _ _ _, HB1.out⟩
 | true =>
  go_wp2_with (go_at_call 50; refine hold3 ?_)
  refine ⟨?_⟩; refine (MB.out _ HB1.out).mono ?_; rintro e w2 ⟨rfl, hb2⟩; have HB2 := Lib.hid (HB1.out.trans (hb2.mono HB1.out.size)); clear hb2 MB; cases mb with
  | false =>
   go_wp2; go_ret2; rw [HV.out]; exact ⟨_, rfl, Kd.R_nil _ _ _ _ _, HB2.out⟩
  | true =>
   obtain ⟨g1, p1, p2, p3⟩ := els_of (Kd.C_below HA.out HB2.out); obtain ⟨g2, q1, q2, q3⟩ := els_of (Kd.C_below HB.out HB2.out); obtain ⟨ga, hga⟩ : ∃ z, row g1 a.length = z := ⟨_, rfl⟩
   obtain ⟨gb, hgb⟩ : ∃ z, row g2 b.length = z := ⟨_, rfl⟩
   have HGA := Lib.hid (show ga.map edP = a ∧ ∀ x ∈ ga, OkEl w2 x from by
    rw [← hga]; exact ⟨p2, fun x hx => by obtain ⟨i, hi, rfl⟩ := row_mem hx; exact p3 i hi⟩)
   have HGB := Lib.hid (show gb.map edP = b ∧ ∀ x ∈ gb, OkEl w2 x from by
    rw [← hgb]; exact ⟨q2, fun x hx => by obtain ⟨i, hi, rfl⟩ := row_mem hx; exact q3 i hi⟩)
   rw [hga] at p1; rw [hgb] at q1; have HA2 := Lib.hid p1; have HBB := Lib.hid q1; clear p1 p2 p3 q1 q2 q3 hga hgb
   go_wp2_with (first
    | (go_at_call 58; refine hold3 ?_)
    | ((with_reducible refine gate_dst (N := 14) rfl ?_); refine Kd.R_lit kEl _ tE ?hg (N := 14) ?hd (xs := ([] : List El)) (inner := []) (ok := fun _ => True) (okp := fun _ => True) ?hr ?hp (fun _ hk => hk) trivial (Below.refl _ _) (Nat.le_refl _) zq30 ?_; (case hd => rfl); (case hg => rfl); (case hr => first | (go_simp; done) | (go_simp; rfl)); (case hp => exact (Reps.none _ _)); intro v14 wa ho hb hg_ hnew_; have HOA := Lib.hid ho; have HBA := Lib.hid hb; clear ho hb hg_ hnew_)
    | ((with_reducible refine gate_dst (N := 16) rfl ?_); refine Kd.R_append_rows kEl (w0 := w2) w2.heap.size rfl (.tmp 14) (.tmp 15) 22 tE (.agg #[.slice none 0 0, (.int .i64 0), (.int .i64 0)]) 40 rfl hu22 info41 rfl zq34 zq4 v14 [] ga _ _ _ (fun _ => True) (fun _ => False) rfl rfl HOA.out (Kd.C_below HA2.out HBA.out) (fun _ _ h => h) (fun _ h => h.elim) (fun _ _ => trivial) HBA.out HBA.out.size ?aL ?_; (case aL => have := HL.out; rw [List.length_nil]; omega); intro v16 wb ho hb hg_ hnew_; have HOB := Lib.hid (show Kd.R kEl tE wb w2.heap.size (fun _ => True) v16 ga from ho); have HBC := Lib.hid hb; clear ho hb hg_ hnew_)
    | ((with_reducible refine gate_dst (N := 18) rfl ?_); refine Kd.R_append_rows kEl (w0 := w2) w2.heap.size rfl (.tmp 16) (.tmp 17) 22 tE (.agg #[.slice none 0 0, (.int .i64 0), (.int .i64 0)]) 40 rfl hu22 info41 rfl zq34 zq4 v16 ga gb _ _ _ (fun _ => True) (fun _ => False) rfl rfl HOB.out (Kd.C_below HBB.out HBC.out) (fun _ _ h => h) (fun _ h => h.elim) (fun _ _ => trivial) HBC.out HBC.out.size ?aL ?_; (case aL => have h1 := HL.out; have h2 := congrArg List.length HGA.out.1; rw [List.length_map] at h2; omega); intro v18 wc ho hb hg_ hnew_; obtain ⟨A18, c18, rfl⟩ := Kd.R_slice ho; have HOC := Lib.hid (Kd.R_reads' ho); have HBD := Lib.hid hb; clear ho hb hg_ hnew_))
   refine ⟨?_⟩; have hm : (ga ++ gb).map edP = a ++ b := by rw [List.map_append, HGA.out.1, HGB.out.1]
   have hC := C_of_El HOC.out.2.2 (fun x hx => by
    rcases List.mem_append.1 hx with hx | hx
    ·exact (HGA.out.2 x hx).below HBD.out
    ·exact (HGB.out.2 x hx).below HBD.out)
   rw [hm] at hC; have hl2 : (ga ++ gb).length = (a ++ b).length := by rw [← hm, List.length_map]
   have NC := refnorm_calls A18 c18 (a ++ b) wc hC (by rw [← hl2]; exact HOC.out.2.1) (by have := HL.out; rw [List.length_append]; omega); rw [← List.length_append, hl2]; refine NC.mono ?_; rintro e w5 ⟨vn, rfl, hRn, hbn⟩; have HRN := Lib.hid (Kd.R_lower hRn (Nat.le_trans HB2.out.size HBD.out.size)); have HBN := Lib.hid (HB2.out.trans ((HBD.out.trans (hbn.mono HBD.out.size)).mono HB2.out.size)); clear hRn hbn NC hC hm hl2; go_wp2; go_ret2; rw [HV.out]; exact ⟨vn, rfl, HRN.out, HBN.out⟩
end Go.Proofs.YtmkgecapkeojaaaGreat.Eg
end
section
namespace Go.Proofs.YtmkgecapkeojaaaGreat.Eg
open Go.Proofs.YtmkgecapkeojaaaGreat Go.Proofs.YtmkgecapkeojaaaGreat.PDa
open Go.RowKit Go.Proofs.YtmkgecapkeojaaaGreatW.PrintWords Go.Proofs.YtmkgecapkeojaaaGreatW.PrintLast Go.Proofs.YtmkgecapkeojaaaGreatW.PrintMore
open Go.Proofs.YtmkgecapkeojaaaGreat.Stp Go.Proofs.YtmkgecapkeojaaaGreat.Run Go.Proofs.YtmkgecapkeojaaaGreat.Rw
theorem madeL_drop' (mk : List Vl → List Vl × Int) (out l : List EdP) (i : Nat) (h : i < l.length) : madeL mk out (l.drop i) = if (mk l[i].f0).2 ≠ 0 then ([], (mk l[i].f0).2) else madeL mk (out ++ [⟨(mk l[i].f0).1, l[i].f1, l[i].f2⟩]) (l.drop (i + 1)) := by
 rw [List.drop_eq_getElem_cons h, madeL]
def rpi.T10 : Bool × List (List Nat × List Nat) := (true, [([], []), ([], []), ([], []), ([], []), ([2, 3], [2, 3]), ([4], [4]), ([5], [5]), ([], []), ([], []), ([7, 8], [7, 8]), ([9], [9]), ([10], [10]), ([1, 6, 11], [1, 6, 11]), ([12], [12]), ([0, 13], [0, 13]), ([14, 14, 0, 1, 2, 3, 4, 5, 6, 7, 8, 9, 10, 11, 12, 13, 14], [0, 14])])
def rpi.B10 : List Nat := [0, 0, 0, 0, 12, 28, 60, 0, 0, 384, 896, 1920, 4094, 8190, 16383, 32767]
theorem rpi.tab10 : rtab .any (opsOf Tryz.f35 10) = rpi.T10 := by kernel_rfl
theorem rpi.bits10 : waitsOk rpi.T10.2 rpi.B10 = true := by kernel_rfl
theorem refpick_calls (A0 : Option Addr) (c0 : Nat) (l : List EdP) (A1 : Option Addr) (c1 : Nat) (cols : List Int) (w : World) (hr0 : Kd.C kE w A0 l.length l) (hc0 : l.length ≤ c0) (hr1 : Kd.C kI w A1 cols.length cols)
  (hl : l.length ≤ 1000) (hrow : ∀ e ∈ l, e.f0.length ≤ 4398046511104) :
  Calls Tryz.prog 35 #[.slice A0 l.length c0, .slice A1 cols.length c1] w fun e w' => ∃ v, e = .returned (.tuple #[v, .int .i64 (pickD cols l).2]) ∧ Kd.R kE tE w' w.heap.size (fun _ => True) v (pickD cols l).1 ∧ Below w.heap.size w w' := by
 have hu := Tryz.underlying41; have hu22 : Tryz.prog.underlying 22 = some (.slice 41) := by kernel_rfl
 have HR := Lib.hid hr0; have HC := Lib.hid hc0; have HR1 := Lib.hid hr1; have HL := Lib.hid hl; have MC := Lib.hid (hmay_calls A0 c0 l w hr0 hc0 zq4 hrow); clear hr0 hc0 hr1 hl hrow; obtain ⟨m, hm⟩ : ∃ m, mayE l = m := ⟨_, rfl⟩
 rw [hm] at MC; have HM := Lib.hid hm; clear hm; go_enter Tryz.func35, Tryz.ntmps35
 go_wp2_with (go_at_call 50; refine hold2 ?_)
 refine ⟨?_⟩; refine MC.out.mono ?_; rintro e w1 ⟨rfl, hb1⟩; have HBa := Lib.hid hb1; clear hb1 MC; cases m with
 | false =>
  have HV := Lib.hid (show pickD cols l = ([], 2) by unfold pickD; rw [if_neg (by rw [HM.out]; decide)]); go_wp2; go_ret2; rw [HV.out]; exact ⟨_, rfl, Kd.R_nil _ _ _ _ _, HBa.out⟩
 | true =>
  obtain ⟨wr, hwr⟩ : ∃ x, x = w1 := ⟨_, rfl⟩
  rw [← hwr] at HBa ⊢; clear hwr; obtain ⟨mk, hmk⟩ : ∃ f : List Vl → List Vl × Int, f = pickV cols := ⟨_, rfl⟩
  have HMK := Lib.hid (show ∀ row, mk row = pickV cols row by rw [hmk]; intro row; rfl); have HPD := Lib.hid (show pickD cols l = if (madeL mk [] l).2 ≠ 0 then ([], (madeL mk [] l).2) else normV (madeL mk [] l).1 by
   unfold pickD; rw [if_pos HM.out, hmk])
  clear hmk; go_wp2; have hbC := below_alloc (Below.refl _ wr) (.cells #[] tE (0, 0)); obtain ⟨wC, hwC⟩ : ∃ x, x = wr.alloc (.cells #[] tE (0, 0)) := ⟨_, rfl⟩
  have hoC : Kd.R kE tE wC wr.heap.size (fun _ => True) (.slice (some ⟨wr.heap.size, 0, none⟩) 0 0) [] := ⟨fun _ _ => trivial, [], ⟨rfl, .inr ⟨wr.heap.size, 0, #[], rfl, Nat.le_refl _, by rw [hwC]; exact blk_new wr _, Nat.le_refl _, Nat.zero_le _, rfl, rfl⟩⟩, Reps.none _ _⟩
  rw [← hwC] at hbC ⊢; clear hwC; have HOC := Lib.hid (Kd.R_lower hoC HBa.out.size); have HBC := Lib.hid (HBa.out.trans (hbC.mono HBa.out.size)); clear hoC hbC
  go_loopw [6, 7] (fun v8 v9 wr => ∃ (i : Nat) (out : List EdP) (A8 : Option Addr) (c8 : Nat), i ≤ l.length ∧ v9 = .int .i64 (i : Int) ∧ v8 = .slice A8 out.length c8 ∧ Aside0 (Kd.R kE tE wr w.heap.size (fun _ => True) (.slice A8 out.length c8) out) ∧ Aside0 (Below w.heap.size w wr) ∧
   Aside0 (madeL mk [] l = madeL mk out (l.drop i)) ∧ Aside0 (out.length ≤ i)) (fun v8 v9 wr => l.length - (intOf v9).toNat)
  case atStart => exact ⟨0, [], _, _, Nat.zero_le _, rfl, rfl, ⟨HOC.out⟩, ⟨HBC.out⟩, ⟨by rw [List.drop_zero]⟩, ⟨Nat.le_refl _⟩⟩
  case round =>
   clear HBa HOC HBC; obtain ⟨i, out, A8, c8, hi, rfl, rfl, HO, HB, HEQ, HLN⟩ := hrel; have hll := HL.out
   by_cases c : i < l.length
   ·obtain ⟨X, hX⟩ : ∃ X, l[i] = X := ⟨_, rfl⟩
    obtain ⟨ad, Ax, cx, e1, x0, x1, x2, x3, x4⟩ := at_T41 (Kd.C_below HR.out HB.out) (i : Int) zq4 zq4; rw [Int.toNat_natCast, rdE l i c, hX] at x0 x1 x2; rw [rdE l i c, hX] at x3 x4; cases e1; have HEN := Lib.hid (show madeL mk [] l = if (mk X.f0).2 ≠ 0 then ([], (mk X.f0).2) else madeL mk (out ++ [⟨(mk X.f0).1, X.f1, X.f2⟩]) (l.drop (i + 1)) by rw [HEQ.out, madeL_drop' mk out l i c, hX]); have DM := Lib.hid (refPick_calls X.f0 cols Ax A1 cx c1 wr x4 x3 (Kd.C_below HR1.out HB.out)); unfold PickIs at DM; rw [← HMK.out] at DM; obtain ⟨mr, hmr⟩ : ∃ z, (mk X.f0).1 = z := ⟨_, rfl⟩
    obtain ⟨me, hme⟩ : ∃ z, (mk X.f0).2 = z := ⟨_, rfl⟩
    rw [hmr, hme] at HEN; rw [hmr, hme] at DM; have DC := DM; clear DM; have HX1 := Lib.hid x1; have HX2 := Lib.hid x2; have pI : (0 ≤ (i : Int)) = True := eq_true zq4; have qI : ((i : Int) < (l.length : Int)) = True := eq_true zq4; clear x1 x2 x3 x4 hmr hme hX
    go_wp2_with (go_at_call 73; refine hold2 ?_)
    refine ⟨?_⟩; refine DC.out.mono ?_; rintro e w2 ⟨vm, rfl, hRm, hb2⟩; obtain ⟨Am, cm, rfl⟩ := Kd.R_slice hRm; have HRM := Lib.hid hRm; have HB2 := Lib.hid hb2; clear DC hRm hb2 x0
    by_cases ce : me = 0
    ·subst ce
     have HEN2 := Lib.hid (show madeL mk [] l = madeL mk (out ++ [⟨mr, X.f1, X.f2⟩]) (l.drop (i + 1)) by rw [HEN.out, if_neg zq30]); clear HEN; go_wp2; obtain ⟨wA, hwA⟩ : ∃ x, x = w2 := ⟨_, rfl⟩
     have b1 : wA.drew.cell? ⟨(ad.add (i * 3)).block, (ad.add (i * 3)).off + 1, none⟩ = some (.int .i64 X.f1) := by rw [hwA]; exact pw_cell_below HB2.out HX1.out
     have b2 : wA.drew.cell? ⟨(ad.add (i * 3)).block, (ad.add (i * 3)).off + 2, none⟩ = some (.int .i64 X.f2) := by rw [hwA]; exact pw_cell_below HB2.out HX2.out
     have HBA := Lib.hid (show Below wr.heap.size wr wA.drew by rw [hwA]; exact below_drew1 HB2.out); have HRMA := Lib.hid (show Kd.R kV tV wA.drew wr.heap.size (fun _ => True) (.slice Am mr.length cm) mr by rw [hwA]; exact Kd.R_drew HRM.out); have HOA := Lib.hid (Kd.R_below HO.out HBA.out); have HOW := Lib.hid (fun k (h : (Value.slice A8 out.length c8).ownBlock = some k) => own_ltR HO.out h); rw [← hwA]; clear hwA HB2 HRM HX1 HX2 HO; refine start_ (n := 16) (S := fun w' => w'.cell? ⟨(ad.add (i * 3)).block, (ad.add (i * 3)).off + 1, none⟩ = some (.int .i64 X.f1) ∧ w'.cell? ⟨(ad.add (i * 3)).block, (ad.add (i * 3)).off + 2, none⟩ = some (.int .i64 X.f2)) (ds := [13, 14]) #[false, false, false, false, false, false, false, false, false, false, false, false, false, false, false, false] zq17 rfl rfl ⟨b1, b2⟩ (fun hHeld => ?_); refine with_tabW rpi.tab10 rpi.bits10 (fun HT_ HW_ => ?_); refine pZ 0 33 ?_; refine pZ 1 34 ?_; refine pZ 2 35 ?_; refine pZ 3 36 ?_; refine pZ 4 37 ?_; refine pZ 5 38 ?_; refine pZ 7 40 ?_; refine pZ 8 41 ?_; refine pZ 9 42 ?_; refine pZ 10 43 ?_; refine tZ2 6 39 ?_; refine tZ2 11 44 ?_; refine pZ 12 45 ?_; refine last_ (i := 13) (N := some 46) #[true, true, true, true, true, true, true, true, true, true, true, true, true, true, false, false] rfl rfl (one_of HT_.out zq17) zq34 (fun K hK => ?_); refine value_ (w1 := ?_) (v := ?_) (by rfl) rfl ?_ ?_; rotate_left 2
     ·go_simp
      constructor
      ·rfl
      ·rfl
     refine hK.out _ _ ?_; clear hK K; refine nZ 46 ?_; refine last_ (i := 14) (N := some 47) #[true, true, true, true, true, true, true, true, true, true, true, true, true, true, true, false] rfl rfl (one_of HT_.out zq17) zq34 (fun K hK => ?_); refine Kd.R_append_step kE (w0 := wA.drew) w.heap.size (by rfl) (.tmp 33) (.tmp 46) 22 41 (.agg #[.slice none 0 0, (.int .i64 0), (.int .i64 0)]) 40 rfl hu22 info41 rfl zq34 zq4 (.slice A8 out.length c8) out ⟨mr, X.f1, X.f2⟩ [.slice Am mr.length cm, .int .i64 X.f1, .int .i64 X.f2] (fun _ => True) (fun k => wr.heap.size ≤ k) rfl rfl ?aP ?aK (fun _ _ => trivial) HOA.out (Below.refl _ _) ?aS ?aL ?_
     case aP => exact k41_mkM _ _ _ ⟨mr, X.f1, X.f2⟩ (Kd.R_mono (Kd.R_lower (Kd.R_bound HRMA.out) (by have := HB.out.size; omega)) (fun _ h => h.2.1))
     case aK => exact fun k hk => ⟨trivial, fun e' => by have := (HOW.out k e'.symm).2; omega⟩
     case aS => have h1 := HB.out.size; have h2 := HBA.out.size; omega
     case aL => have := HLN.out; omega
     intro v1 w5 ho hb hg hat; have HO1 := Lib.hid ho; have HBn := Lib.hid hb; clear ho hb hg hat; refine hK.out _ _ ?_; clear hK K; refine nZ 47 ?_; refine pZ 15 6 ?_; refine done_ (done_of HT_.out zq17) ?_; obtain ⟨An, cn, rfl⟩ := Kd.R_slice HO1.out; have HBN := Lib.hid ((HB.out.trans (HBA.out.mono HB.out.size)).trans HBn.out); go_wp2; go_roundw
     case rel => exact ⟨i + 1, out ++ [⟨mr, X.f1, X.f2⟩], _, _, by omega, by go_num, rfl, ⟨HO1.out⟩, ⟨HBN.out⟩, ⟨HEN2.out⟩, ⟨by have := HLN.out; rw [List.length_append]; simp; omega⟩⟩
     case measure => simp [intOf]; omega
    ·have HV := Lib.hid (show pickD cols l = ([], me) by rw [HPD.out, HEN.out, if_pos ce, if_pos ce])
     have b1 : (me == 0) = false := beq_eq_false_iff_ne.mpr ce; have b2 : (me != 0) = true := bne_iff_ne.mpr ce; have HBw := Lib.hid (HB.out.trans (HB2.out.mono HB.out.size)); clear HEN; go_wp2; go_ret2; rw [HV.out]; exact ⟨_, rfl, Kd.R_nil _ _ _ _ _, HBw.out⟩
   ·obtain rfl : i = l.length := by omega
    have HV := Lib.hid (show pickD cols l = normV out by rw [HPD.out, HEQ.out, List.drop_length, madeL, if_neg zq30]); have NC := Lib.hid (refnorm_calls A8 c8 out wr (Kd.R_reads' HO.out).2.2 (Kd.R_reads' HO.out).2.1 (by have := HLN.out; omega))
    go_wp2_with (go_at_call 58; refine hold2 ?_)
    refine ⟨?_⟩; refine NC.out.mono ?_; rintro e w2 ⟨vn, rfl, hRn, hbn⟩; have HRN := Lib.hid (Kd.R_lower hRn HB.out.size); have HBN := Lib.hid (HB.out.trans (hbn.mono HB.out.size)); clear hRn hbn NC; go_wp2; go_ret2; rw [HV.out]; exact ⟨_, rfl, HRN.out, HBN.out⟩
end Go.Proofs.YtmkgecapkeojaaaGreat.Eg
end
section
namespace Go.Proofs.YtmkgecapkeojaaaGreat.Eg
open Go.Proofs.YtmkgecapkeojaaaGreat Go.Proofs.YtmkgecapkeojaaaGreat.PDa Go.Proofs.YtmkgecapkeojaaaGreat.EvP
open Go.RowKit Go.Proofs.YtmkgecapkeojaaaGreatW.PrintWords Go.Proofs.YtmkgecapkeojaaaGreatW.PrintLast Go.Proofs.YtmkgecapkeojaaaGreatW.PrintMore
open Go.Proofs.YtmkgecapkeojaaaGreat.Stp Go.Proofs.YtmkgecapkeojaaaGreat.Rw
theorem nilT : (⟨#[]⟩ : ByteArray).toList = [] := (toList_nil_iff_emptyBytes _).2 rfl
def ltw : T := .b ⟨13, 0, ⟨#[]⟩⟩ (.l ⟨3, 0, ⟨#[]⟩⟩) (.l ⟨1, 2, ⟨#[]⟩⟩)
theorem ltw_ok : ltw.ok := by
 refine ⟨?_, by decide, ⟨?_, by decide⟩, ⟨?_, by decide⟩⟩ <;> simp [okW, noT, nilT, takes]
theorem lxw_form : formV lxw = 0 := by
 have h := parse_fl ltw ltw_ok [] []; rw [List.append_nil] at h; have e : ltw.fl = lxw := rfl; unfold formV; rw [if_neg zq34, ← e, h]; rfl
theorem rowMay1 (a : Int) : rowMay [⟨1, a, ⟨#[]⟩⟩] = true := by simp [rowMay, thOf, nilT]
theorem thO_num (a : Int) : thO (Th.num a) = some (Th.num a) := by
 simp [thO, thVal3, thOf]
theorem lx_v1 : holdsV lxw [v1] = (false, 0) := by
 have e : ltw.fl = lxw := rfl; have h : evalV lxw [v1] = (1, 0, ⟨#[]⟩, 0) := by
  rw [← e, evalV_T ltw ltw_ok [v1] (by rw [e]; exact lxw_form) (rowMay1 1)]; simp [T.ev, ltw, evL, evB, v1, compareS, getTh, rd_T65, outV, thVal3, Except.map]; simp only [thO_num]
  rfl
 unfold holdsV; rw [h]
 rfl
theorem lx_v2 : holdsV lxw [v2] = (true, 0) := by
 have e : ltw.fl = lxw := rfl; have h : evalV lxw [v2] = (1, 1, ⟨#[]⟩, 0) := by
  rw [← e, evalV_T ltw ltw_ok [v2] (by rw [e]; exact lxw_form) (rowMay1 2)]; simp [T.ev, ltw, evL, evB, v2, compareS, getTh, rd_T65, outV, thVal3, Except.map]; simp only [thO_num]
  rfl
 unfold holdsV; rw [h]
 rfl
def ptw : T := .l ⟨1, 7, ⟨#[]⟩⟩
theorem ptw_ok : ptw.ok := by
 refine ⟨?_, by decide⟩ ; simp [okW, noT, nilT, takes]
theorem pxw_form : formV pxw = 0 := by
 have h := parse_fl ptw ptw_ok [] []; rw [List.append_nil] at h; have e : ptw.fl = pxw := rfl; unfold formV; rw [if_neg zq34, ← e, h]; rfl
theorem px_v (a : Int) : evalV pxw [⟨1, a, ⟨#[]⟩⟩] = (1, 7, ⟨#[]⟩, 0) := by
 have e : ptw.fl = pxw := rfl; rw [← e, evalV_T ptw ptw_ok _ (by rw [e]; exact pxw_form) (rowMay1 a)]
 rfl
theorem eq11 : eqR [v1] [v1] = true := eqR_refl _
theorem eq12 : eqR [v1] [v2] = false := by
 cases h : eqR [v1] [v2] with
 | false => rfl
 | true =>
  have := (eqR_iff _ _).1 h; simp [v1, v2] at this
theorem cmp12 : cmpR [v1] [v2] < 0 := by
 rw [cmpR_rC (show rowMay [v1] = true from rowMay1 1) (show rowMay [v2] = true from rowMay1 2)]
 decide
theorem eqR_comm {a b : List Rw.Vl} (h : eqR a b = false) : eqR b a = false := by
 cases h2 : eqR b a with
 | false => rfl
 | true =>
  have := (eqR_iff _ _).1 h2; subst this; rw [eqR_refl] at h; exact h
theorem runsL : runsP [e1, e2, e3] = [([v1], [⟨2, 1⟩, ⟨5, -1⟩]), ([v2], [⟨5, 1⟩])] := by
 simp [runsP, runAt, e1, e2, e3, eq11, eqR_comm eq12, jmpE]
theorem mayL3 : mayE [e1, e2, e3] = true := by
 unfold mayE eachP; rw [runsL]; simp only [eachR, lastB, decide_eq_true cmp12]; have r1 : rowMay [v1] = true := rowMay1 1; have r2 : rowMay [v2] = true := rowMay1 2; rw [r1, r2]
 decide
theorem factA : PDd.linear_Filter.f [e1, e2, e3] lxw = some ([e3], 0) := by
 unfold PDd.linear_Filter.f; rw [if_pos zq34]; have h : filterP (holdsV lxw) (formV lxw) [e1, e2, e3] = ([e3], 0) := by
  unfold filterP; rw [if_pos mayL3, lxw_form, if_neg zq34, runsL]; simp only [filR, lx_v1, lx_v2]; have r2 : rowMay [v2] = true := rowMay1 2; have b : buildP [v2] [⟨5, 1⟩] = [e3] := by
   unfold buildP; rw [r2]
   rfl
  rw [b]; simp
 rw [h]
def rw7 : List Rw.Vl := [⟨1, 7, ⟨#[]⟩⟩]
theorem rw7_may : rowMay rw7 = true := rowMay1 7
def becL : List EdP := [⟨rw7, 2, 1⟩, ⟨rw7, 5, -1⟩, ⟨rw7, 5, 1⟩]
theorem normL : normV becL = ([⟨rw7, 2, 1⟩], 0) := by
 unfold normV; rw [if_neg (by simp [becL, argE, rw7_may]), if_neg (by simp [becL, timeB])]; have hr : rowsOf becL = [rw7] := inc_uniq _ _ (rowsOf_inc _) (by simp [Inc]) (fun z => by
  rw [rowsOf_mem]
  constructor
  ·rintro ⟨e, he, rfl⟩
   simp only [becL, List.mem_cons, List.not_mem_nil, or_false] at he
   rcases he with rfl | rfl | rfl <;> simp
  ·intro h
   simp only [List.mem_singleton] at h; exact ⟨⟨rw7, 2, 1⟩, by simp [becL], h.symm⟩)
 have hj : jumpsOf becL rw7 = [⟨2, 1⟩, ⟨5, -1⟩, ⟨5, 1⟩] := by
  simp [jumpsOf, becL, eqR_refl, jmpE]
 have hn : normJ [⟨2, 1⟩, ⟨5, -1⟩, ⟨5, 1⟩] = ([⟨2, 1⟩], 0) := by rfl
 unfold groups; rw [hr]; simp only [List.map_cons, List.map_nil, hj, mapR, hn]
 rfl
theorem factB : PDd.linear_Project.f [e1, e2, e3] [pxw] = some ([⟨[⟨1, 7, ⟨#[]⟩⟩], 2, 1⟩], 0) := by
 unfold PDd.linear_Project.f; rw [if_pos zq34]; have h : projV evalV formV [pxw] [e1, e2, e3] = ([⟨[⟨1, 7, ⟨#[]⟩⟩], 2, 1⟩], 0) := by
  unfold projV; rw [if_pos mayL3, if_neg zq34]; have h1 : formAll formV [pxw] = 0 := by simp [formAll, pxw_form]
  rw [if_neg (by rw [h1]; decide)]; unfold becV; rw [runsL]; have p1 : projR evalV [v1] [] [pxw] = (rw7, 0) := by
   simp only [projR]; rw [show evalV pxw [v1] = (1, 7, ⟨#[]⟩, 0) from px_v 1]
   rfl
  have p2 : projR evalV [v2] [] [pxw] = (rw7, 0) := by
   simp only [projR]; rw [show evalV pxw [v2] = (1, 7, ⟨#[]⟩, 0) from px_v 2]
   rfl
  have b1 : buildP rw7 [⟨2, 1⟩, ⟨5, -1⟩] = [⟨rw7, 2, 1⟩, ⟨rw7, 5, -1⟩] := by
   unfold buildP; rw [rw7_may]
   rfl
  have b2 : buildP rw7 [⟨5, 1⟩] = [⟨rw7, 5, 1⟩] := by
   unfold buildP; rw [rw7_may]
   rfl
  have hb : becR (fun row => projR evalV row [] [pxw]) [] [([v1], [⟨2, 1⟩, ⟨5, -1⟩]), ([v2], [⟨5, 1⟩])] = (becL, 0) := by
   simp only [becR, p1, p2, b1, b2]
   rfl
  rw [hb, if_neg zq34]; exact normL
 rw [h]
theorem r64b {z : Int} (h : (Lit.int .i64 z).wf = true) : PDd.r64 z = true := by
 have := R64.of_wf h; unfold PDd.r64; rw [Bool.and_eq_true]; exact ⟨decide_eq_true this.1, decide_eq_true this.2⟩
abbrev wfV (v : Rw.Vl) : Prop := (Lit.int .i64 v.f0).wf = true ∧ (Lit.int .i64 v.f1).wf = true ∧ v.f2.size ≤ 140737488351232
abbrev wfE (e : EdP) : Prop := ((∀ v ∈ e.f0, wfV v) ∧ e.f0.length * Tryz.prog.bytesOf 65 ≤ 140737488351232) ∧ (Lit.int .i64 e.f1).wf = true ∧ (Lit.int .i64 e.f2).wf = true
abbrev wfEs (l : List EdP) : Prop := (∀ e ∈ l, wfE e) ∧ l.length * Tryz.prog.bytesOf 41 ≤ 140737488351232
theorem bytesV : Tryz.prog.bytesOf 65 = 32 := by kernel_rfl
theorem okEs_wf {l : List EdP} (h : wfEs l) : PDd.okEs l = true := by
 unfold PDd.okEs; refine List.all_eq_true.2 fun e he => ?_
 obtain ⟨⟨h1, h2⟩, _⟩ := h.1 e he; rw [bytesV] at h2; rw [Bool.and_eq_true]; exact ⟨decide_eq_true zq4, List.all_eq_true.2 fun v hv => r64b (h1 v hv).2.1⟩
end Go.Proofs.YtmkgecapkeojaaaGreat.Eg
end
section
namespace Go.Proofs.YtmkgecapkeojaaaGreat.Eg
open Go.Proofs.YtmkgecapkeojaaaGreat Go.Proofs.YtmkgecapkeojaaaGreat.PDa
open Go.RowKit Go.Proofs.YtmkgecapkeojaaaGreatW.PrintWords Go.Proofs.YtmkgecapkeojaaaGreatW.PrintLast Go.Proofs.YtmkgecapkeojaaaGreatW.PrintMore
open Go.Proofs.YtmkgecapkeojaaaGreat.Stp Go.Proofs.YtmkgecapkeojaaaGreat.Rw
theorem pickD_sub (cols : List Int) (l : List EdP) : (∀ e ∈ (pickD cols l).1, e.f0.length ≤ 8) ∧ (pickD cols l).1.length ≤ 4096 := by
 unfold pickD
 repeat' split
 all_goals first | exact normV_sub _ | exact ⟨by simp, by simp⟩
theorem addV_sub (a b : List EdP) : (∀ e ∈ (addV a b).1, e.f0.length ≤ 8) ∧ (addV a b).1.length ≤ 4096 := by
 unfold addV
 split
 ·exact normV_sub _
 ·exact ⟨by simp, by simp⟩
abbrev AnsK (F : Nat) (args : Array Value) (w : World) (r : List EdP × Int) : Prop := Calls Tryz.prog F args w fun e w' => ∃ v, e = .returned (.tuple #[v, .int .i64 r.2]) ∧ Kd.R kE tE w' w.heap.size (fun _ => True) v r.1 ∧ Below w.heap.size w w'
theorem union_calls (A0 A1 : Option Addr) (c0 c1 : Nat) (a b : List EdP) (w : World) (hr0 : Kd.C kE w A0 a.length a) (hr1 : Kd.C kE w A1 b.length b) (hw0 : ∀ e ∈ a, e.f0.length ≤ 4398046511104) (hw1 : ∀ e ∈ b, e.f0.length ≤ 4398046511104) :
  AnsK 36 #[.slice A0 a.length c0, .slice A1 b.length c1] w (addV a b) := by
 have AC := Lib.hid (Add_calls A0 A1 c0 c1 a b w hr0 hr1 hw0 hw1); clear hr0 hr1 hw0 hw1; go_enter Tryz.func36, Tryz.ntmps36
 go_wp2_with (go_at_call 33; refine hold_intro ?_)
 refine ⟨?_⟩; refine AC.out.mono ?_; rintro e w1 ⟨v, r, hr, rfl, h1, h2⟩; have HV := Lib.hid (add_is hr); have H1 := Lib.hid h1; have H2 := Lib.hid h2; clear hr h1 h2; go_wp2; go_ret2; rw [← HV.out]; exact ⟨v, rfl, H1.out, H2.out⟩
theorem picks_calls (fA : PDd.linear_Filter.f [e1, e2, e3] lxw = some ([e3], 0)) (fB : PDd.linear_Project.f [e1, e2, e3] [pxw] = some ([⟨[⟨1, 7, ⟨#[]⟩⟩], 2, 1⟩], 0))
  (A0 : Option Addr) (c0 : Nat) (l : List EdP) (A1 : Option Addr) (c1 : Nat) (m : List EdP) (A2 : Option Addr) (c2 : Nat) (cols : List Int) (w : World) (hr0 : Kd.C kE w A0 l.length l) (hc0 : l.length ≤ c0) (hr1 : Kd.C kE w A1 m.length m) (hc1 : m.length ≤ c1) (hr2 : Kd.C kI w A2 cols.length cols) (hl : PDd.okEs l = true) (hm : PDd.okEs m = true) :
  Calls Tryz.prog 9 #[.slice A0 l.length c0, .slice A1 m.length c1, .slice A2 cols.length c2] w fun e w' => e = .returned (.bool true) ∧ Below w.heap.size w w' := by
 have hwl := PDd.okEs_row hl; have hwm := PDd.okEs_row hm; have FL := Lib.hid (w22_few.calls A0 c0 l (decide ((l.length : Int) ≤ 60)) w hr0 hc0 rfl); have FM := Lib.hid (fun (W : World) (h : Below w.heap.size w W) => w22_few.calls A1 c1 m (decide ((m.length : Int) ≤ 60)) W (Kd.C_below hr1 h) hc1 rfl); have LV := Lib.hid (fun w1 => live_calls w1 fA fB); have PA := Lib.hid (fun (W : World) (h : Below w.heap.size w W) => show AnsK _ _ _ _ from Pick_calls A0 A2 c0 c2 l cols W (Kd.C_below hr0 h) hwl (Kd.C_below hr2 h)); have PB := Lib.hid (fun (hf : l.length ≤ 60) (W : World) (h : Below w.heap.size w W) => show AnsK _ _ _ _ from refpick_calls A0 c0 l A2 c2 cols W (Kd.C_below hr0 h) hc0 (Kd.C_below hr2 h) zq4 hwl); have PC := Lib.hid (fun (W : World) (h : Below w.heap.size w W) => union_calls A0 A1 c0 c1 l m W (Kd.C_below hr0 h) (Kd.C_below hr1 h) hwl hwm); have PD := Lib.hid (fun (hf : l.length ≤ 60) (hf2 : m.length ≤ 60) (W : World) (h : Below w.heap.size w W) => show AnsK _ _ _ _ from refadd_calls A0 A1 c0 c1 l m W (Kd.C_below hr0 h) hc0 (Kd.C_below hr1 h) hc1 zq4 hwl hwm); have hp := pickD_sub cols l; have ha := addV_sub l m; obtain ⟨⟨G, g⟩, hG⟩ : ∃ z, pickD cols l = z := ⟨_, rfl⟩
 obtain ⟨⟨D, d⟩, hD⟩ : ∃ z, addV l m = z := ⟨_, rfl⟩
 rw [hG] at PA PB hp; rw [hD] at PC PD ha; have SG := Lib.hid (fun (A A' : Option Addr) (c c' : Nat) (W : World) (h1 : Kd.C kE W A G.length G) (h2 : G.length ≤ c) (h3 : Kd.C kE W A' G.length G) (h4 : G.length ≤ c') => hsame_calls A A' c c' G W h1 h2 h3 h4 (by have := hp.2; simp only at this; omega) (fun e he => by have := hp.1 e he; omega)); have SD := Lib.hid (fun (A A' : Option Addr) (c c' : Nat) (W : World) (h1 : Kd.C kE W A D.length D) (h2 : D.length ≤ c) (h3 : Kd.C kE W A' D.length D) (h4 : D.length ≤ c') => hsame_calls A A' c c' D W h1 h2 h3 h4 (by have := ha.2; simp only at this; omega) (fun e he => by have := ha.1 e he; omega)); clear fA fB hr0 hc0 hr1 hc1 hr2 hl hm hwl hwm hp ha hG hD
 by_cases hfl : l.length ≤ 60
 rotate_left
 ·have b0 : decide ((l.length : Int) ≤ 60) = false := decide_eq_false zq4
  rw [b0] at FL; clear hfl b0; go_enter Tryz.func9, Tryz.ntmps9
  go_wp2_with (go_at_call 16; refine hold_intro ?_)
  refine ⟨?_⟩; refine FL.out.mono ?_; rintro e w1 ⟨rfl, hd1⟩; have HB1 := Lib.hid (show Below w.heap.size w w1 from hd1.below); clear hd1
  go_wp2_with (go_at_call 17; refine hold_intro ?_)
  refine ⟨?_⟩; refine (LV.out w1).mono ?_; rintro e w2 ⟨rfl, hb2⟩; go_wp2; go_ret; exact ⟨rfl, HB1.out.trans (hb2.mono HB1.out.size)⟩
 ·have b0 : decide ((l.length : Int) ≤ 60) = true := decide_eq_true zq4
  rw [b0] at FL; have HFL := Lib.hid hfl; clear b0; go_enter Tryz.func9, Tryz.ntmps9
  go_wp2_with (go_at_call 16; refine hold_intro ?_)
  refine ⟨?_⟩; refine FL.out.mono ?_; rintro e w1 ⟨rfl, hd1⟩; have HB1 := Lib.hid (show Below w.heap.size w w1 from hd1.below); clear hd1 FL
  go_wp2_with (go_at_call 16; refine hold_intro ?_)
  refine ⟨?_⟩; refine (FM.out w1 HB1.out).mono ?_; rintro e w2 ⟨rfl, hd2⟩; have HB2 := Lib.hid (HB1.out.trans (hd2.below.mono HB1.out.size)); clear hd2 FM
  by_cases hfm : m.length ≤ 60
  rotate_left
  ·have b1 : decide ((m.length : Int) ≤ 60) = false := decide_eq_false zq4
   rw [b1]; clear hfm b1
   go_wp2_with (go_at_call 17; refine hold_intro ?_)
   refine ⟨?_⟩; refine (LV.out w2).mono ?_; rintro e w3 ⟨rfl, hb3⟩; go_wp2; go_ret; exact ⟨rfl, HB2.out.trans (hb3.mono HB2.out.size)⟩
  ·have b1 : decide ((m.length : Int) ≤ 60) = true := decide_eq_true zq4
   rw [b1]; have HFM := Lib.hid hfm; clear hfm b1 hfl
   go_wp2_with (go_at_call 34; refine hold_intro ?_)
   refine ⟨?_⟩; refine (PA.out w2 HB2.out).mono ?_; rintro e w3 ⟨va, rfl, hRa, hb3⟩; obtain ⟨Aa, ca, rfl⟩ := Kd.R_slice hRa; have HB3 := Lib.hid (HB2.out.trans (hb3.mono HB2.out.size)); have HRA := Lib.hid (Kd.R_reads' hRa); clear hRa hb3 PA
   go_wp2_with (go_at_call 35; refine hold_intro ?_)
   refine ⟨?_⟩; refine (PB.out HFL.out w3 HB3.out).mono ?_; rintro e w4 ⟨vb, rfl, hRb, hb4⟩; obtain ⟨Ab, cb, rfl⟩ := Kd.R_slice hRb; have HB4 := Lib.hid (HB3.out.trans (hb4.mono HB3.out.size)); have HRB := Lib.hid (Kd.R_reads' hRb); have HRA4 := Lib.hid (Kd.C_below HRA.out.2.2 hb4); clear hRb hb4 PB
   go_wp2_with (go_at_call 36; refine hold_intro ?_)
   refine ⟨?_⟩; refine (PC.out w4 HB4.out).mono ?_; rintro e w5 ⟨vc, rfl, hRc, hb5⟩; obtain ⟨Ac, cc, rfl⟩ := Kd.R_slice hRc; have HB5 := Lib.hid (HB4.out.trans (hb5.mono HB4.out.size)); have HRC := Lib.hid (Kd.R_reads' hRc); have HB45 := Lib.hid hb5; clear hRc hb5 PC
   go_wp2_with (go_at_call 37; refine hold_intro ?_)
   refine ⟨?_⟩; refine (PD.out HFL.out HFM.out w5 HB5.out).mono ?_; rintro e w6 ⟨vd, rfl, hRd, hb6⟩; obtain ⟨Ad, cd, rfl⟩ := Kd.R_slice hRd; have HB6 := Lib.hid (HB5.out.trans (hb6.mono HB5.out.size)); have HRD := Lib.hid (Kd.R_reads' hRd); have HB56 := Lib.hid hb6; clear hRd hb6 PD
   go_wp2_with (go_at_call 17; refine hold_intro ?_)
   refine ⟨?_⟩; refine (LV.out w6).mono ?_; rintro e w7 ⟨rfl, hb7⟩; have HB7 := Lib.hid (HB6.out.trans (hb7.mono HB6.out.size)); have HB67 := Lib.hid hb7; have hb47 : Below w4.heap.size w4 w7 := HB45.out.trans ((HB56.out.trans (hb7.mono HB56.out.size)).mono HB45.out.size); have S1 := Lib.hid (SG.out Aa Ab ca cb w7 (Kd.C_below HRA4.out hb47) HRA.out.2.1 (Kd.C_below HRB.out.2.2 hb47) HRB.out.2.1); clear hb7 LV hb47 SG
   go_wp2_with (go_at_call 20; refine hold_intro ?_)
   refine ⟨?_⟩; refine S1.out.mono ?_; rintro e w8 ⟨rfl, hb8⟩; have HB8 := Lib.hid (HB7.out.trans (hb8.mono HB7.out.size)); have hb68 : Below w6.heap.size w6 w8 := HB67.out.trans (hb8.mono HB67.out.size); have S2 := Lib.hid (SD.out Ac Ad cc cd w8 (Kd.C_below HRC.out.2.2 (HB56.out.trans (hb68.mono HB56.out.size))) HRC.out.2.1 (Kd.C_below HRD.out.2.2 hb68) HRD.out.2.1); clear hb8 hb68 SD S1
   go_wp2_with (go_at_call 20; refine hold_intro ?_)
   refine ⟨?_⟩; refine S2.out.mono ?_; rintro e w9 ⟨rfl, hb9⟩; have HB9 := Lib.hid (HB8.out.trans (hb9.mono HB8.out.size)); clear hb9; go_wp2; go_ret; exact ⟨rfl, HB9.out⟩
abbrev wfIs (l : List Int) : Prop := (∀ x ∈ l, (Lit.int .i64 x).wf = true) ∧ l.length * Tryz.prog.bytesOf 3 ≤ 140737488351232
theorem picks_walk (A0 : Option Addr) (c0 : Nat) (l0 : List EdP) (A1 : Option Addr) (c1 : Nat) (l1 : List EdP) (A2 : Option Addr) (c2 : Nat) (l2 : List Int) (w : World) (hr0 : Kd.C k41 w A0 l0.length l0) (hc0 : l0.length ≤ c0) (h0 : wfEs l0)
  (hr1 : Kd.C k41 w A1 l1.length l1) (hc1 : l1.length ≤ c1) (h1 : wfEs l1) (hr2 : Kd.C (Kd.int .i64) w A2 l2.length l2) (hc2 : l2.length ≤ c2) (h2 : wfIs l2) :
  Calls Tryz.prog 9 #[.slice A0 l0.length c0, .slice A1 l1.length c1, .slice A2 l2.length c2] w fun e w' => e = .returned (.bool true) ∧ Below w.heap.size w w' :=
 picks_calls factA factB A0 c0 l0 A1 c1 l1 A2 c2 l2 w hr0 hc0 hr1 hc1 hr2 (okEs_wf h0) (okEs_wf h1)
end Go.Proofs.YtmkgecapkeojaaaGreat.Eg
end
