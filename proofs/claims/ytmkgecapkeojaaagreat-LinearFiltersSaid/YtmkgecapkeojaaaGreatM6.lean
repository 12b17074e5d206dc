/- Texts of this claim, put together by a program: PDax11, PDax12. -/
import Derived.Test.YtmkgecapkeojaaaGreatM5
set_option linter.unusedVariables false
set_option linter.unusedSimpArgs false
set_option maxHeartbeats 8000000
set_option maxRecDepth 100000
section
namespace Go.Proofs.YtmkgecapkeojaaaGreat.PDa
open Go.RowKit Go.Proofs.YtmkgecapkeojaaaGreatW.PrintWords Go.Proofs.YtmkgecapkeojaaaGreatW.PrintLast Go.Proofs.YtmkgecapkeojaaaGreatW.PrintMore
attribute [local go_sem] max2_int min2_int max_two min_two max_three min_three max_four min_four
mutual
def r10_Rows.l0 : Nat → List (S41) → List (List (S65)) → Int → Option ((List (List (S65))))
 | 0, _, _, _ => none
 | k + 1, x0, x3, x4 => if x4 < (x0.length : Int) then (r10_Rows.l1 k x0 x3 x4 0) else (some x3)
def r10_Rows.l1 : Nat → List (S41) → List (List (S65)) → Int → Int → Option ((List (List (S65))))
 | 0, _, _, _, _ => none
 | k + 1, x0, x3, x4, x5 => if x5 < (x3.length : Int) then (if 0 ≤ x5 then (if 0 ≤ x4 then (if x4 < (x0.length : Int) then ((r06_Compare.f k (rd_L3 x3 x5) ((rd_T41 x0 x4).f0)).bind fun t195 => (if t195 < 0 then (r10_Rows.l1 k x0 x3 x4 (wrap64 (x5 + 1))) else ((r06_Same.f k (rd_L3 x3 x5) ((rd_T41 x0 x4).f0)).bind fun t198 => (if t198 = true then (r10_Rows.l0 k x0 x3 (wrap64 (x4 + 1))) else ((some (([] : List (List (S65))) : List (List (S65)))).bind fun y199 => (if x5 ≤ (x3.length : Int) then ((some (x3.take (x5 : Int).toNat : List (List (S65)))).bind fun y202 => (if y199.length + y202.length < 5864062014805 then ((some (y199 ++ y202 : List (List (S65)))).bind fun y207 => (if y207.length < 5864062014805 then ((some (y207 ++ [(rd_T41 x0 x4).f0] : List (List (S65)))).bind fun y211 => ((some (x3.drop (x5 : Int).toNat : List (List (S65)))).bind fun y214 => (if y211.length + y214.length < 5864062014805 then (r10_Rows.l0 k x0 (y211 ++ y214) (wrap64 (x4 + 1))) else (none)))) else (none))) else (none))) else (none))))))) else (none)) else (none)) else (none)) else ((some (([] : List (List (S65))) : List (List (S65)))).bind fun y222 => (if 0 ≤ x5 then (if x5 ≤ (x3.length : Int) then ((some (x3.take (x5 : Int).toNat : List (List (S65)))).bind fun y225 => (if y222.length + y225.length < 5864062014805 then ((some (y222 ++ y225 : List (List (S65)))).bind fun y230 => (if 0 ≤ x4 then (if x4 < (x0.length : Int) then (if y230.length < 5864062014805 then ((some (y230 ++ [(rd_T41 x0 x4).f0] : List (List (S65)))).bind fun y234 => ((some (x3.drop (x5 : Int).toNat : List (List (S65)))).bind fun y237 => (if y234.length + y237.length < 5864062014805 then (r10_Rows.l0 k x0 (y234 ++ y237) (wrap64 (x4 + 1))) else (none)))) else (none)) else (none)) else (none))) else (none))) else (none)) else (none)))
end
def r10_Rows.f (k : Nat) (l0 : List (S41)) : Option ((List (List (S65)))) := r10_Rows.l0 k l0 (([] : List (List (S65)))) 0
def r10_Rows.T6 : Bool × List (List Nat × List Nat) := (true, [([], []), ([], []), ([1], [1]), ([0, 2], [0, 2]), ([3], [3]), ([4], [4]), ([4], [4]), ([5, 6, 4], [4, 5, 6]), ([7, 4], [4, 7]), ([4], [4]), ([4], [4]), ([9, 10, 4], [4, 9, 10]), ([11, 4], [4, 11]), ([12, 4], [4, 12]), ([8, 13, 4, 4], [4, 8, 13]), ([14, 4], [4, 14]), ([4, 15], [4, 15])])
def r10_Rows.B6 : List Nat := [0, 0, 2, 7, 15, 31, 31, 127, 255, 31, 31, 1567, 3615, 7711, 16383, 32767, 65535]
theorem r10_Rows.tab6 : rtab .any (opsOf Tryz.f66 6) = r10_Rows.T6 := by kernel_rfl
theorem r10_Rows.bits6 : waitsOk r10_Rows.T6.2 r10_Rows.B6 = true := by kernel_rfl
def r10_Rows.T8 : Bool × List (List Nat × List Nat) := (true, [([], []), ([], []), ([1], [1]), ([0, 2], [0, 2]), ([3], [3]), ([4], [4]), ([4], [4]), ([5, 6, 4], [4, 5, 6]), ([7, 4], [4, 7]), ([4], [4]), ([4], [4]), ([9, 10, 4], [4, 9, 10]), ([11, 4], [4, 11]), ([12, 4], [4, 12]), ([8, 13, 4, 4], [4, 8, 13]), ([4, 14], [4, 14])])
def r10_Rows.B8 : List Nat := [0, 0, 2, 7, 15, 31, 31, 127, 255, 31, 31, 1567, 3615, 7711, 16383, 32767]
theorem r10_Rows.tab8 : rtab .any (opsOf Tryz.f66 8) = r10_Rows.T8 := by kernel_rfl
theorem r10_Rows.bits8 : waitsOk r10_Rows.T8.2 r10_Rows.B8 = true := by kernel_rfl
theorem r10_Rows.calls (k : Nat) (P0_ : Nat → Prop) (A0 : Option Addr) (c0 : Nat) (l0 : List (S41)) (r : List (List (S65))) (w : World) (hs0 : Kd.V k41 41 w w.heap.size (fun k_ => P0_ k_) (.slice A0 l0.length c0) l0) (h : r10_Rows.f k l0 = some r) :
  Calls Tryz.prog 66 #[.slice A0 l0.length c0] w fun e w' => ∃ v0_ : Value, e = .returned (v0_) ∧ Kd.N (Kd.slice 65 k65) 39 w' w.heap.size (fun k_ => (P0_ k_ ∨ w.heap.size ≤ k_)) v0_ r ∧ Below w.heap.size w w' := by
 have HO0 := Aside0.mk (show Kd.V k41 41 w w.heap.size (fun k_ => (P0_ k_ ∨ w.heap.size ≤ k_)) (.slice A0 l0.length c0) l0 from Kd.V_mono hs0 (fun k_ hk => .inl hk)); have HB := Aside0.mk (Below.refl w.heap.size w); have H : (r10_Rows.l0 k l0 (([] : List (List (S65)))) 0) = some r := h; clear h; obtain ⟨y190, hy190⟩ : ∃ y_ : List (List (S65)), y_ = (([] : List (List (S65)))) := ⟨_, rfl⟩
 replace H : (r10_Rows.l0 k l0 y190 0) = some r := by first | (rw [hy190]; with_reducible exact H) | (have H2_ := (Option.bind_some _ _).symm.trans H; rw [hy190]; with_reducible exact H2_) | (have H2_ := (Option.bind_some _ _).symm.trans H; with_reducible exact H2_) | with_reducible exact H | (rw [hy190]; exact H) | exact H
 have Ny190 := Aside0.mk hy190; clear hy190; have H' := Aside0.mk H; clear H; go_enter Tryz.func66, Tryz.ntmps66
 go_wp2_with (first | ((with_reducible refine gate_dst (N := 7) rfl ?_); refine Kd.N_lit (Kd.slice 65 k65) _ 39 ?hg (N' := 7) ?hd (xs := ([] : List (List (S65)))) (inner := []) (ok := (fun k_ => (P0_ k_ ∨ w.heap.size ≤ k_))) (okp := (fun k_ => (P0_ k_ ∨ w.heap.size ≤ k_))) ?hr ?hp (fun _ hk => hk) ((show ∀ k_, w.heap.size ≤ k_ → (fun k_ => (P0_ k_ ∨ w.heap.size ≤ k_)) k_ from fun k_ hk => (.inr (Nat.le_trans (below_size zq0) hk))) _ (Nat.le_refl _)) (Below.refl _ _) (Nat.le_refl _) zq30 ?_; (case hd => rfl); (case hg => rfl); (case hr => first | (go_simp; done) | (go_simp; rfl)); (case hp => exact (Reps.none _ _)); intro v191 w2 ho3 hb hg_ hnew_; clear hg_ hnew_; (first | rw [← Ny190.out] at ho3 | (simp only [Int.reduceToNat] at ho3; rw [← Ny190.out] at ho3)); have HO192 := Aside0.mk (Kd.N_lower ho3 (below_size zq0)); replace HO0 := Aside0.mk (Kd.V_elder' (vQ HO0.out) (Kd.N_base ho3) hb); replace HB := BB HB hb; clear hb ho3))
 go_loopg [3, 4] k (fun kq v3 v4 w' => ∃ (x3_1 : List (List (S65))) (x4_1 : Int), v4 = .int .i64 x4_1 ∧ Aside0 (r10_Rows.l0 kq l0 x3_1 x4_1 = some r) ∧ Aside0 (kq ≤ k) ∧ Aside0 (Kd.V k41 41 w' w.heap.size (fun k_ => (P0_ k_ ∨ w.heap.size ≤ k_) ∧ some k_ ≠ (v3 : Value).ownBlock) (.slice A0 l0.length c0) l0) ∧ Aside0 (Kd.N (Kd.slice 65 k65) 39 w' w.heap.size (fun k_ => (P0_ k_ ∨ w.heap.size ≤ k_)) v3 x3_1) ∧ Aside0 (Below w.heap.size w w'))
 case atStart => exact ⟨(y190), (0), zq3, H', ⟨Nat.le_refl _⟩, ⟨zq80⟩, ⟨(by (with_reducible repeat (first | apply Kd.N_alloc | apply Kd.N_drewN | apply Kd.N_drew)); exact HO192.out)⟩, ⟨zq0⟩⟩
 case round =>
  clear H'
  try clear p2
  obtain ⟨x3_1, x4_1, rfl, HA, HK1, HO_0, HO_3, HB⟩ := hrel; cases gk with
  | zero => exact absurd HA.out (by simp [r10_Rows.l0])
  | succ k1 =>
   have H := HA.out; clear HA; simp only [r10_Rows.l0] at H
   by_cases c4 : x4_1 < (l0.length : Int)
   ·rw [if_pos c4] at H
    have c4b0 : decide (x4_1 < (l0.length : Int)) = true := decide_eq_true c4; clear c4; have H' := Aside0.mk H; clear H; go_wp2
    go_loopg [5] k1 (fun kq v5 w' => ∃ (x5_2 : Int), v5 = .int .i64 x5_2 ∧ Aside0 (r10_Rows.l1 kq l0 x3_1 x4_1 x5_2 = some r) ∧ Aside0 (kq ≤ k1) ∧ Aside0 (Kd.V k41 41 w' w.heap.size (fun k_ => (P0_ k_ ∨ w.heap.size ≤ k_) ∧ some k_ ≠ (u3 : Value).ownBlock) (.slice A0 l0.length c0) l0) ∧ Aside0 (Kd.N (Kd.slice 65 k65) 39 w' w.heap.size (fun k_ => (P0_ k_ ∨ w.heap.size ≤ k_)) u3 x3_1) ∧ Aside0 (Below w.heap.size w w'))
    case atStart => exact ⟨(0), zq3, H', ⟨Nat.le_refl _⟩, ⟨zq55⟩, ⟨zq56⟩, ⟨zq0⟩⟩
    case round =>
     clear H'
     try clear p2
     try clear c4
     try clear c4b0
     try clear p2
     obtain ⟨x5_2, rfl, HA, HK2, HO_0, HO_3, HB⟩ := hrel; cases gk with
     | zero => exact absurd HA.out (by simp [r10_Rows.l1])
     | succ k2 =>
      have H := HA.out; clear HA; simp only [r10_Rows.l1] at H
      by_cases c5 : x5_2 < (x3_1.length : Int)
      ·rw [if_pos c5] at H
       have c5b0 : decide (x5_2 < (x3_1.length : Int)) = true := decide_eq_true c5; clear c5
       by_cases c6 : 0 ≤ x5_2
       ·rw [if_pos c6] at H
        have c6b0 : decide (0 ≤ x5_2) = true := decide_eq_true c6; clear c6
        by_cases c7 : 0 ≤ x4_1
        ·rw [if_pos c7] at H
         have c7b0 : decide (0 ≤ x4_1) = true := decide_eq_true c7; clear c7
         by_cases c8 : x4_1 < (l0.length : Int)
         ·rw [if_pos c8] at H
          have c8b0 : decide (x4_1 < (l0.length : Int)) = true := decide_eq_true c8; clear c8; replace H := Option.bind_eq_some_iff.mp H; obtain ⟨t195, A90, H⟩ := H; replace H : (if t195 < 0 then (r10_Rows.l1 k2 l0 x3_1 x4_1 (wrap64 (x5_2 + 1))) else ((r06_Same.f k2 (rd_L3 x3_1 x5_2) ((rd_T41 l0 x4_1).f0)).bind fun t198 => (if t198 = true then (r10_Rows.l0 k2 l0 x3_1 (wrap64 (x4_1 + 1))) else ((some (([] : List (List (S65))) : List (List (S65)))).bind fun y199 => (if x5_2 ≤ (x3_1.length : Int) then ((some (x3_1.take (x5_2 : Int).toNat : List (List (S65)))).bind fun y202 => (if y199.length + y202.length < 5864062014805 then ((some (y199 ++ y202 : List (List (S65)))).bind fun y207 => (if y207.length < 5864062014805 then ((some (y207 ++ [(rd_T41 l0 x4_1).f0] : List (List (S65)))).bind fun y211 => ((some (x3_1.drop (x5_2 : Int).toNat : List (List (S65)))).bind fun y214 => (if y211.length + y214.length < 5864062014805 then (r10_Rows.l0 k2 l0 (y211 ++ y214) (wrap64 (x4_1 + 1))) else (none)))) else (none))) else (none))) else (none)))))) = some r := H; have A9 := Aside0.mk A90; clear A90
          by_cases c10 : t195 < 0
          ·rw [if_pos c10] at H
           have c10b0 : decide (t195 < 0) = true := decide_eq_true c10; clear c10; have H' := Aside0.mk H; clear H
           try go_wp2
           replace HO_0 := Aside0.mk (Kd.V_drew HO_0.out); replace HO_3 := Aside0.mk (Kd.N_drew HO_3.out); replace HB := Aside0.mk (below_drew1 HB.out); obtain ⟨Ao12, co12, eo12⟩ := Kd.N_slice HO_3.out
           (first | subst eo12 | (injection eo12 with f1_ f2_ f3_; have f4_ := f1_.symm; have f5_ := f3_.symm; clear f1_ f2_ f3_; subst f4_; subst f5_))
           have p193 : 0 ≤ (x5_2 : Int) := of_decide_eq_true zq1; have q193 : x5_2 < (x3_1.length : Int) := of_decide_eq_true zq1; obtain ⟨ad193, A193_0, c193_0, e193, hx193_0, hl193_0, hi193_0⟩ := at_L3 (Kd.N_reads' HO_3.out).2.2 x5_2 p193 q193; cases e193; obtain ⟨ce193, hce193, hMe193, hcc193⟩ := Kd.N_get HO_3.out [] x5_2 p193 zq84; obtain ⟨ua193_0, uc193_0, rfl, ul193_0, ge193_0⟩ := Kd.FK_slice_open hMe193; have hv193_0 := hcc193 0 _ rfl; rw [Nat.add_zero, show ((Kd.slice 65 k65)).sz = 1 from rfl, Nat.mul_one] at hv193_0; replace hv193_0 := Option.some.inj (hv193_0.symm.trans hx193_0); injection hv193_0 with hva_ hvn_ hvc_
           rw [hva_] at ge193_0; rw [hvc_] at ul193_0; have HL193_0 := Aside0.mk (show Kd.V k65 65 _ w.heap.size _ _ (rd_L3 x3_1 x5_2) from Kd.V_mk ul193_0 ge193_0); clear hva_ hvn_ hvc_ ge193_0 ul193_0; clear hcc193 hce193; have HR193_0 := Aside0.mk hi193_0; have HC193_0 := Aside0.mk hl193_0; clear hi193_0 hl193_0; replace p193 := eq_true p193; replace q193 := eq_true q193; have p194 : 0 ≤ (x4_1 : Int) := of_decide_eq_true zq1; have q194 : x4_1 < (l0.length : Int) := of_decide_eq_true zq1; obtain ⟨ad194, A194_0, c194_0, e194, hx194_0, hx194_1, hx194_2, hl194_0, hi194_0⟩ := at_T41 (Kd.V_reads' HO_0.out).2.2 x4_1 p194 q194; cases e194; obtain ⟨ce194, hce194, hMe194, hcc194⟩ := Kd.V_get HO_0.out z41 x4_1 p194 zq83; obtain ⟨ua194_0, uc194_0, rfl, ul194_0, ge194_0⟩ := k41_openF hMe194; have hv194_0 := hcc194 0 _ rfl; rw [Nat.add_zero] at hv194_0; replace hv194_0 := Option.some.inj (hv194_0.symm.trans hx194_0); injection hv194_0 with hva_ hvn_ hvc_
           rw [hva_] at ge194_0; rw [hvc_] at ul194_0; have HL194_0 := Aside0.mk (show Kd.V k65 65 _ w.heap.size _ _ ((rd_T41 l0 x4_1).f0) from Kd.V_mk ul194_0 ge194_0); clear hva_ hvn_ hvc_ ge194_0 ul194_0; clear hcc194 hce194; have HR194_0 := Aside0.mk hi194_0; have HC194_0 := Aside0.mk hl194_0; clear hi194_0 hl194_0; replace p194 := eq_true p194; replace q194 := eq_true q194; refine start_ (n := 17) (S := fun w' => w'.cell? (ad193.add (x5_2).toNat) = some (.slice A193_0 (rd_L3 x3_1 x5_2).length c193_0) ∧ w'.cell? (ad194.add ((x4_1).toNat * 3)) = some (.slice A194_0 ((rd_T41 l0 x4_1).f0).length c194_0) ∧ w'.cell? ⟨(ad194.add ((x4_1).toNat * 3)).block, (ad194.add ((x4_1).toNat * 3)).off + 1, none⟩ = some (.int .i64 ((rd_T41 l0 x4_1).f1)) ∧ w'.cell? ⟨(ad194.add ((x4_1).toNat * 3)).block, (ad194.add ((x4_1).toNat * 3)).off + 2, none⟩ = some (.int .i64 ((rd_T41 l0 x4_1).f2))) (ds := []) #[false, false, false, false, false, false, false, false, false, false, false, false, false, false, false, false, false] zq17 rfl rfl ⟨hx193_0, hx194_0, hx194_1, hx194_2⟩ (fun hHeld => ?_); refine with_tabW r10_Rows.tab6 r10_Rows.bits6 (fun HT_ HW_ => ?_)
           generalize wr.drew = w11 at HO_0 HO_3 HB HL193_0 HL194_0 HR193_0 HR194_0 hx193_0 hx194_0 hx194_1 hx194_2 hHeld ⊢; refine pZ 0 14 ?_; refine pZ 1 15 ?_; refine pZ 2 16 ?_; refine pZ 3 17 ?_; refine pZ 4 18 ?_; refine pZ 5 19 ?_; refine pZ 6 20 ?_; refine pZ 7 21 ?_; refine pZ 9 23 ?_; refine pZ 10 24 ?_; refine pZ 11 25 ?_; refine pZ 12 26 ?_; refine tZ4 8 22 ?_; refine tZ4 13 27 ?_; refine oZ 14 28 (fun K hK => ?_); refine gY Tryz.func87 #[.slice A193_0 (rd_L3 x3_1 x5_2).length c193_0, .slice A194_0 ((rd_T41 l0 x4_1).f0).length c194_0] ?_
           with_reducible refine (r06_Compare.calls k2 _ _ (rd_L3 x3_1 x5_2) _ _ ((rd_T41 l0 x4_1).f0) t195 _ ?side1 ?side2 ?side3 ?side4 A9.out).mono ?_
           (case side1 => exact cQ (cQ HR193_0.out))
           (case side2 => exact HC193_0.out)
           (case side3 => exact cQ (cQ HR194_0.out))
           (case side4 => exact HC194_0.out)
           rintro e w13 ⟨rfl, hb⟩; have HS0_ := (hb.cell (World.block_lt_of_cell? _ _ (hHeld.1))).trans (hHeld.1); have HS1_ := (hb.cell (World.block_lt_of_cell? _ _ (hHeld.2.1))).trans (hHeld.2.1); have HS2_ := (hb.cell (World.block_lt_of_cell? _ _ (hHeld.2.2.1))).trans (hHeld.2.2.1); have HS3_ := (hb.cell (World.block_lt_of_cell? _ _ (hHeld.2.2.2))).trans (hHeld.2.2.2); refine ⟨_, rfl, ?_⟩; replace HO_0 := VB HO_0 hb; replace HO_3 := NB HO_3 hb; replace HL193_0 := VB HL193_0 hb; replace HL194_0 := VB HL194_0 hb; replace HR193_0 := CB HR193_0 hb; replace HR194_0 := CB HR194_0 hb; replace HB := BB HB hb
           (try clear hb)
           refine hK.out _ _ ⟨HS0_, HS1_, HS2_, HS3_⟩ (fun hHeld => ?_); clear hK K; refine nZ 28 ?_; refine pZ 15 29 ?_; refine pZ 16 30 ?_; refine done_ (done_of HT_.out zq17) ?_
           try go_wp2
           go_roundg k2
           case measure => have := HK1.out; have := HK2.out; omega
           case rel => exact ⟨(wrap64 (x5_2 + 1)), zq3, H', ⟨by have := HK1.out; have := HK2.out; omega⟩, ⟨zq55⟩, ⟨zq56⟩, ⟨zq0⟩⟩
          ·rw [if_neg c10] at H
           have c10b0 : decide (t195 < 0) = false := decide_eq_false c10; clear c10; replace H := Option.bind_eq_some_iff.mp H; obtain ⟨t198, A140, H⟩ := H; replace H : (if t198 = true then (r10_Rows.l0 k2 l0 x3_1 (wrap64 (x4_1 + 1))) else ((some (([] : List (List (S65))) : List (List (S65)))).bind fun y199 => (if x5_2 ≤ (x3_1.length : Int) then ((some (x3_1.take (x5_2 : Int).toNat : List (List (S65)))).bind fun y202 => (if y199.length + y202.length < 5864062014805 then ((some (y199 ++ y202 : List (List (S65)))).bind fun y207 => (if y207.length < 5864062014805 then ((some (y207 ++ [(rd_T41 l0 x4_1).f0] : List (List (S65)))).bind fun y211 => ((some (x3_1.drop (x5_2 : Int).toNat : List (List (S65)))).bind fun y214 => (if y211.length + y214.length < 5864062014805 then (r10_Rows.l0 k2 l0 (y211 ++ y214) (wrap64 (x4_1 + 1))) else (none)))) else (none))) else (none))) else (none)))) = some r := H; have A14 := Aside0.mk A140; clear A140
           by_cases c15 : t198 = true
           ·subst c15
            have H1 : (r10_Rows.l0 k2 l0 x3_1 (wrap64 (x4_1 + 1))) = some r := by rw [if_pos rfl] at H; exact H
            clear H; have H := H1; clear H1; have H' := Aside0.mk H; clear H
            try go_wp2
            replace HO_0 := Aside0.mk (Kd.V_drew HO_0.out); replace HO_3 := Aside0.mk (Kd.N_drew HO_3.out); replace HB := Aside0.mk (below_drew1 HB.out); obtain ⟨Ao17, co17, eo17⟩ := Kd.N_slice HO_3.out
            (first | subst eo17 | (injection eo17 with f1_ f2_ f3_; have f4_ := f1_.symm; have f5_ := f3_.symm; clear f1_ f2_ f3_; subst f4_; subst f5_))
            have p193 : 0 ≤ (x5_2 : Int) := of_decide_eq_true zq1; have q193 : x5_2 < (x3_1.length : Int) := of_decide_eq_true zq1; obtain ⟨ad193, A193_0, c193_0, e193, hx193_0, hl193_0, hi193_0⟩ := at_L3 (Kd.N_reads' HO_3.out).2.2 x5_2 p193 q193; cases e193; obtain ⟨ce193, hce193, hMe193, hcc193⟩ := Kd.N_get HO_3.out [] x5_2 p193 zq84; obtain ⟨ua193_0, uc193_0, rfl, ul193_0, ge193_0⟩ := Kd.FK_slice_open hMe193; have hv193_0 := hcc193 0 _ rfl; rw [Nat.add_zero, show ((Kd.slice 65 k65)).sz = 1 from rfl, Nat.mul_one] at hv193_0; replace hv193_0 := Option.some.inj (hv193_0.symm.trans hx193_0); injection hv193_0 with hva_ hvn_ hvc_
            rw [hva_] at ge193_0; rw [hvc_] at ul193_0; have HL193_0 := Aside0.mk (show Kd.V k65 65 _ w.heap.size _ _ (rd_L3 x3_1 x5_2) from Kd.V_mk ul193_0 ge193_0); clear hva_ hvn_ hvc_ ge193_0 ul193_0; clear hcc193 hce193; have HR193_0 := Aside0.mk hi193_0; have HC193_0 := Aside0.mk hl193_0; clear hi193_0 hl193_0; replace p193 := eq_true p193; replace q193 := eq_true q193; have p194 : 0 ≤ (x4_1 : Int) := of_decide_eq_true zq1; have q194 : x4_1 < (l0.length : Int) := of_decide_eq_true zq1; obtain ⟨ad194, A194_0, c194_0, e194, hx194_0, hx194_1, hx194_2, hl194_0, hi194_0⟩ := at_T41 (Kd.V_reads' HO_0.out).2.2 x4_1 p194 q194; cases e194; obtain ⟨ce194, hce194, hMe194, hcc194⟩ := Kd.V_get HO_0.out z41 x4_1 p194 zq83; obtain ⟨ua194_0, uc194_0, rfl, ul194_0, ge194_0⟩ := k41_openF hMe194; have hv194_0 := hcc194 0 _ rfl; rw [Nat.add_zero] at hv194_0; replace hv194_0 := Option.some.inj (hv194_0.symm.trans hx194_0); injection hv194_0 with hva_ hvn_ hvc_
            rw [hva_] at ge194_0; rw [hvc_] at ul194_0; have HL194_0 := Aside0.mk (show Kd.V k65 65 _ w.heap.size _ _ ((rd_T41 l0 x4_1).f0) from Kd.V_mk ul194_0 ge194_0); clear hva_ hvn_ hvc_ ge194_0 ul194_0; clear hcc194 hce194; have HR194_0 := Aside0.mk hi194_0; have HC194_0 := Aside0.mk hl194_0; clear hi194_0 hl194_0; replace p194 := eq_true p194; replace q194 := eq_true q194; refine start_ (n := 17) (S := fun w' => w'.cell? (ad193.add (x5_2).toNat) = some (.slice A193_0 (rd_L3 x3_1 x5_2).length c193_0) ∧ w'.cell? (ad194.add ((x4_1).toNat * 3)) = some (.slice A194_0 ((rd_T41 l0 x4_1).f0).length c194_0) ∧ w'.cell? ⟨(ad194.add ((x4_1).toNat * 3)).block, (ad194.add ((x4_1).toNat * 3)).off + 1, none⟩ = some (.int .i64 ((rd_T41 l0 x4_1).f1)) ∧ w'.cell? ⟨(ad194.add ((x4_1).toNat * 3)).block, (ad194.add ((x4_1).toNat * 3)).off + 2, none⟩ = some (.int .i64 ((rd_T41 l0 x4_1).f2))) (ds := []) #[false, false, false, false, false, false, false, false, false, false, false, false, false, false, false, false, false] zq17 rfl rfl ⟨hx193_0, hx194_0, hx194_1, hx194_2⟩ (fun hHeld => ?_); refine with_tabW r10_Rows.tab6 r10_Rows.bits6 (fun HT_ HW_ => ?_)
            generalize wr.drew = w16 at HO_0 HO_3 HB HL193_0 HL194_0 HR193_0 HR194_0 hx193_0 hx194_0 hx194_1 hx194_2 hHeld ⊢; refine pZ 0 14 ?_; refine pZ 1 15 ?_; refine pZ 2 16 ?_; refine pZ 3 17 ?_; refine pZ 4 18 ?_; refine pZ 5 19 ?_; refine pZ 6 20 ?_; refine pZ 7 21 ?_; refine pZ 9 23 ?_; refine pZ 10 24 ?_; refine pZ 11 25 ?_; refine pZ 12 26 ?_; refine tZ4 8 22 ?_; refine tZ4 13 27 ?_; refine oZ 14 28 (fun K hK => ?_); refine gY Tryz.func87 #[.slice A193_0 (rd_L3 x3_1 x5_2).length c193_0, .slice A194_0 ((rd_T41 l0 x4_1).f0).length c194_0] ?_
            with_reducible refine (r06_Compare.calls k2 _ _ (rd_L3 x3_1 x5_2) _ _ ((rd_T41 l0 x4_1).f0) t195 _ ?side1 ?side2 ?side3 ?side4 A9.out).mono ?_
            (case side1 => exact cQ (cQ HR193_0.out))
            (case side2 => exact HC193_0.out)
            (case side3 => exact cQ (cQ HR194_0.out))
            (case side4 => exact HC194_0.out)
            rintro e w18 ⟨rfl, hb⟩; have HS0_ := (hb.cell (World.block_lt_of_cell? _ _ (hHeld.1))).trans (hHeld.1); have HS1_ := (hb.cell (World.block_lt_of_cell? _ _ (hHeld.2.1))).trans (hHeld.2.1); have HS2_ := (hb.cell (World.block_lt_of_cell? _ _ (hHeld.2.2.1))).trans (hHeld.2.2.1); have HS3_ := (hb.cell (World.block_lt_of_cell? _ _ (hHeld.2.2.2))).trans (hHeld.2.2.2); refine ⟨_, rfl, ?_⟩; replace HO_0 := VB HO_0 hb; replace HO_3 := NB HO_3 hb; replace HL193_0 := VB HL193_0 hb; replace HL194_0 := VB HL194_0 hb; replace HR193_0 := CB HR193_0 hb; replace HR194_0 := CB HR194_0 hb; replace HB := BB HB hb
            (try clear hb)
            refine hK.out _ _ ⟨HS0_, HS1_, HS2_, HS3_⟩ (fun hHeld => ?_); clear hK K; refine nZ 28 ?_; refine pZ 15 29 ?_; refine pZ 16 30 ?_; refine done_ (done_of HT_.out zq17) ?_
            try go_wp2
            replace HO_0 := Aside0.mk (Kd.V_drew HO_0.out); replace HO_3 := Aside0.mk (Kd.N_drew HO_3.out); replace HL193_0 := Aside0.mk (Kd.V_drew HL193_0.out); replace HL194_0 := Aside0.mk (Kd.V_drew HL194_0.out); replace HR193_0 := Aside0.mk (Kd.C_drew HR193_0.out); replace HR194_0 := Aside0.mk (Kd.C_drew HR194_0.out); replace HB := Aside0.mk (below_drew1 HB.out); have p196 : 0 ≤ (x5_2 : Int) := of_decide_eq_true zq1; have q196 : x5_2 < (x3_1.length : Int) := of_decide_eq_true zq1; obtain ⟨ad196, A196_0, c196_0, e196, hx196_0, hl196_0, hi196_0⟩ := at_L3 (Kd.N_reads' HO_3.out).2.2 x5_2 p196 q196; obtain rfl : ad193 = ad196 := (by injection e196)
            obtain ⟨ce196, hce196, hMe196, hcc196⟩ := Kd.N_get HO_3.out [] x5_2 p196 (by first | exact q196 | exact of_decide_eq_true zq1 | (have e_ := (Kd.N_reads' HO_3.out).1; omega)); obtain ⟨ua196_0, uc196_0, rfl, ul196_0, ge196_0⟩ := Kd.FK_slice_open hMe196; have hv196_0 := hcc196 0 _ rfl; rw [Nat.add_zero, show ((Kd.slice 65 k65)).sz = 1 from rfl, Nat.mul_one] at hv196_0; replace hv196_0 := Option.some.inj (hv196_0.symm.trans hx196_0); injection hv196_0 with hva_ hvn_ hvc_
            rw [hva_] at ge196_0; rw [hvc_] at ul196_0; have HL196_0 := Aside0.mk (show Kd.V k65 65 _ w.heap.size _ _ (rd_L3 x3_1 x5_2) from Kd.V_mk ul196_0 ge196_0); clear hva_ hvn_ hvc_ ge196_0 ul196_0; clear hcc196 hce196; have HR196_0 := Aside0.mk hi196_0; have HC196_0 := Aside0.mk hl196_0; clear hi196_0 hl196_0; replace p196 := eq_true p196; replace q196 := eq_true q196; have p197 : 0 ≤ (x4_1 : Int) := of_decide_eq_true zq1; have q197 : x4_1 < (l0.length : Int) := of_decide_eq_true zq1; obtain ⟨ad197, A197_0, c197_0, e197, hx197_0, hx197_1, hx197_2, hl197_0, hi197_0⟩ := at_T41 (Kd.V_reads' HO_0.out).2.2 x4_1 p197 q197; obtain rfl : ad194 = ad197 := (by injection e197)
            obtain ⟨ce197, hce197, hMe197, hcc197⟩ := Kd.V_get HO_0.out z41 x4_1 p197 (by first | exact q197 | exact of_decide_eq_true zq1 | (have e_ := (Kd.V_reads' HO_0.out).1; omega)); obtain ⟨ua197_0, uc197_0, rfl, ul197_0, ge197_0⟩ := k41_openF hMe197; have hv197_0 := hcc197 0 _ rfl; rw [Nat.add_zero] at hv197_0; replace hv197_0 := Option.some.inj (hv197_0.symm.trans hx197_0); injection hv197_0 with hva_ hvn_ hvc_
            rw [hva_] at ge197_0; rw [hvc_] at ul197_0; have HL197_0 := Aside0.mk (show Kd.V k65 65 _ w.heap.size _ _ ((rd_T41 l0 x4_1).f0) from Kd.V_mk ul197_0 ge197_0); clear hva_ hvn_ hvc_ ge197_0 ul197_0; clear hcc197 hce197; have HR197_0 := Aside0.mk hi197_0; have HC197_0 := Aside0.mk hl197_0; clear hi197_0 hl197_0; replace p197 := eq_true p197; replace q197 := eq_true q197; refine start_ (n := 16) (S := fun w' => w'.cell? (ad193.add (x5_2).toNat) = some (.slice A196_0 (rd_L3 x3_1 x5_2).length c196_0) ∧ w'.cell? (ad194.add ((x4_1).toNat * 3)) = some (.slice A197_0 ((rd_T41 l0 x4_1).f0).length c197_0) ∧ w'.cell? ⟨(ad194.add ((x4_1).toNat * 3)).block, (ad194.add ((x4_1).toNat * 3)).off + 1, none⟩ = some (.int .i64 ((rd_T41 l0 x4_1).f1)) ∧ w'.cell? ⟨(ad194.add ((x4_1).toNat * 3)).block, (ad194.add ((x4_1).toNat * 3)).off + 2, none⟩ = some (.int .i64 ((rd_T41 l0 x4_1).f2))) (ds := []) #[false, false, false, false, false, false, false, false, false, false, false, false, false, false, false, false] zq17 rfl rfl ⟨hx196_0, hx197_0, hx197_1, hx197_2⟩ (fun hHeld => ?_); refine with_tabW r10_Rows.tab8 r10_Rows.bits8 (fun HT_ HW_ => ?_)
            generalize w18.drew = w19 at HO_0 HO_3 HL193_0 HL194_0 HR193_0 HR194_0 HB HL196_0 HL197_0 HR196_0 HR197_0 hx196_0 hx197_0 hx197_1 hx197_2 hHeld ⊢; refine pZ 0 33 ?_; refine pZ 1 34 ?_; refine pZ 2 35 ?_; refine pZ 3 36 ?_; refine pZ 4 37 ?_; refine pZ 5 38 ?_; refine pZ 6 39 ?_; refine pZ 7 40 ?_; refine pZ 9 42 ?_; refine pZ 10 43 ?_; refine pZ 11 44 ?_; refine pZ 12 45 ?_; refine tZ4 8 41 ?_; refine tZ4 13 46 ?_; refine oZ 14 47 (fun K hK => ?_); refine gY Tryz.func53 #[.slice A196_0 (rd_L3 x3_1 x5_2).length c196_0, .slice A197_0 ((rd_T41 l0 x4_1).f0).length c197_0] ?_
            with_reducible refine (r06_Same.calls k2 _ _ (rd_L3 x3_1 x5_2) _ _ ((rd_T41 l0 x4_1).f0) true _ ?side1 ?side2 ?side3 ?side4 A14.out).mono ?_
            (case side1 => exact cQ (cQ HR196_0.out))
            (case side2 => exact HC196_0.out)
            (case side3 => exact cQ (cQ HR197_0.out))
            (case side4 => exact HC197_0.out)
            rintro e w' ⟨rfl, ⟨nd, rfl⟩⟩; refine ⟨_, rfl, ?_⟩; refine hK.out _ _ ⟨hHeld.1, hHeld.2.1, hHeld.2.2.1, hHeld.2.2.2⟩ (fun hHeld => ?_); clear hK K; refine nZ 47 ?_; refine pZ 15 48 ?_; refine done_ (done_of HT_.out zq17) ?_
            try go_wp2
            go_roundg k2
            case measure => have := HK1.out; have := HK2.out; omega
            case rel => exact ⟨(x3_1), (wrap64 (x4_1 + 1)), zq3, H', ⟨by have := HK1.out; have := HK2.out; omega⟩, ⟨zq55⟩, ⟨zq56⟩, ⟨zq0⟩⟩
           ·replace c15 := Bool.eq_false_iff.mpr c15
            subst c15; have H1 : ((some (([] : List (List (S65))) : List (List (S65)))).bind fun y199 => (if x5_2 ≤ (x3_1.length : Int) then ((some (x3_1.take (x5_2 : Int).toNat : List (List (S65)))).bind fun y202 => (if y199.length + y202.length < 5864062014805 then ((some (y199 ++ y202 : List (List (S65)))).bind fun y207 => (if y207.length < 5864062014805 then ((some (y207 ++ [(rd_T41 l0 x4_1).f0] : List (List (S65)))).bind fun y211 => ((some (x3_1.drop (x5_2 : Int).toNat : List (List (S65)))).bind fun y214 => (if y211.length + y214.length < 5864062014805 then (r10_Rows.l0 k2 l0 (y211 ++ y214) (wrap64 (x4_1 + 1))) else (none)))) else (none))) else (none))) else (none))) = some r := by rw [if_neg (show ¬ (false = true) by decide)] at H; exact H
            clear H; have H := H1; clear H1; obtain ⟨y199, hy199⟩ : ∃ y_ : List (List (S65)), y_ = (([] : List (List (S65)))) := ⟨_, rfl⟩
            replace H : (if x5_2 ≤ (x3_1.length : Int) then ((some (x3_1.take (x5_2 : Int).toNat : List (List (S65)))).bind fun y202 => (if y199.length + y202.length < 5864062014805 then ((some (y199 ++ y202 : List (List (S65)))).bind fun y207 => (if y207.length < 5864062014805 then ((some (y207 ++ [(rd_T41 l0 x4_1).f0] : List (List (S65)))).bind fun y211 => ((some (x3_1.drop (x5_2 : Int).toNat : List (List (S65)))).bind fun y214 => (if y211.length + y214.length < 5864062014805 then (r10_Rows.l0 k2 l0 (y211 ++ y214) (wrap64 (x4_1 + 1))) else (none)))) else (none))) else (none))) else (none)) = some r := by first | (rw [hy199]; with_reducible exact H) | (have H2_ := (Option.bind_some _ _).symm.trans H; rw [hy199]; with_reducible exact H2_) | (have H2_ := (Option.bind_some _ _).symm.trans H; with_reducible exact H2_) | with_reducible exact H | (rw [hy199]; exact H) | exact H
            have Ny199 := Aside0.mk hy199; clear hy199; have c20b0 := eq_true (of_decide_eq_true zq1 : 0 ≤ x5_2)
            by_cases c21 : x5_2 ≤ (x3_1.length : Int)
            ·rw [if_pos c21] at H
             have c21b0 := eq_true c21; have c21b1 : decide (x5_2 ≤ (x3_1.length : Int)) = true := decide_eq_true c21; clear c21; obtain ⟨y202, hy202⟩ : ∃ y_ : List (List (S65)), y_ = (x3_1.take (x5_2 : Int).toNat) := ⟨_, rfl⟩
             replace H : (if y199.length + y202.length < 5864062014805 then ((some (y199 ++ y202 : List (List (S65)))).bind fun y207 => (if y207.length < 5864062014805 then ((some (y207 ++ [(rd_T41 l0 x4_1).f0] : List (List (S65)))).bind fun y211 => ((some (x3_1.drop (x5_2 : Int).toNat : List (List (S65)))).bind fun y214 => (if y211.length + y214.length < 5864062014805 then (r10_Rows.l0 k2 l0 (y211 ++ y214) (wrap64 (x4_1 + 1))) else (none)))) else (none))) else (none)) = some r := by first | (rw [hy202]; with_reducible exact H) | (have H2_ := (Option.bind_some _ _).symm.trans H; rw [hy202]; with_reducible exact H2_) | (have H2_ := (Option.bind_some _ _).symm.trans H; with_reducible exact H2_) | with_reducible exact H | (rw [hy202]; exact H) | exact H
             have Ny202 := Aside0.mk hy202; clear hy202
             by_cases c22 : y199.length + y202.length < 5864062014805
             ·rw [if_pos c22] at H
              have LMc22 := Aside0.mk c22; clear c22; obtain ⟨y207, hy207⟩ : ∃ y_ : List (List (S65)), y_ = (y199 ++ y202) := ⟨_, rfl⟩
              replace H : (if y207.length < 5864062014805 then ((some (y207 ++ [(rd_T41 l0 x4_1).f0] : List (List (S65)))).bind fun y211 => ((some (x3_1.drop (x5_2 : Int).toNat : List (List (S65)))).bind fun y214 => (if y211.length + y214.length < 5864062014805 then (r10_Rows.l0 k2 l0 (y211 ++ y214) (wrap64 (x4_1 + 1))) else (none)))) else (none)) = some r := by first | (rw [hy207]; with_reducible exact H) | (have H2_ := (Option.bind_some _ _).symm.trans H; rw [hy207]; with_reducible exact H2_) | (have H2_ := (Option.bind_some _ _).symm.trans H; with_reducible exact H2_) | with_reducible exact H | (rw [hy207]; exact H) | exact H
              have Ny207 := Aside0.mk hy207; clear hy207
              by_cases c23 : y207.length < 5864062014805
              ·rw [if_pos c23] at H
               have LMc23 := Aside0.mk c23; clear c23; obtain ⟨y211, hy211⟩ : ∃ y_ : List (List (S65)), y_ = (y207 ++ [(rd_T41 l0 x4_1).f0]) := ⟨_, rfl⟩
               replace H : ((some (x3_1.drop (x5_2 : Int).toNat : List (List (S65)))).bind fun y214 => (if y211.length + y214.length < 5864062014805 then (r10_Rows.l0 k2 l0 (y211 ++ y214) (wrap64 (x4_1 + 1))) else (none))) = some r := by first | (rw [hy211]; with_reducible exact H) | (have H2_ := (Option.bind_some _ _).symm.trans H; rw [hy211]; with_reducible exact H2_) | (have H2_ := (Option.bind_some _ _).symm.trans H; with_reducible exact H2_) | with_reducible exact H | (rw [hy211]; exact H) | exact H
               have Ny211 := Aside0.mk hy211; clear hy211; have c24b0 := eq_true (of_decide_eq_true zq1 : 0 ≤ x5_2); have c25b0 := eq_true (of_decide_eq_true zq1 : x5_2 ≤ (x3_1.length : Int)); obtain ⟨y214, hy214⟩ : ∃ y_ : List (List (S65)), y_ = (x3_1.drop (x5_2 : Int).toNat) := ⟨_, rfl⟩
               replace H : (if y211.length + y214.length < 5864062014805 then (r10_Rows.l0 k2 l0 (y211 ++ y214) (wrap64 (x4_1 + 1))) else (none)) = some r := by first | (rw [hy214]; with_reducible exact H) | (have H2_ := (Option.bind_some _ _).symm.trans H; rw [hy214]; with_reducible exact H2_) | (have H2_ := (Option.bind_some _ _).symm.trans H; with_reducible exact H2_) | with_reducible exact H | (rw [hy214]; exact H) | exact H
               have Ny214 := Aside0.mk hy214; clear hy214
               by_cases c26 : y211.length + y214.length < 5864062014805
               ·rw [if_pos c26] at H
                have LMc26 := Aside0.mk c26; clear c26; obtain ⟨y219, hy219⟩ : ∃ y_ : List (List (S65)), y_ = (y211 ++ y214) := ⟨_, rfl⟩
                replace H : (r10_Rows.l0 k2 l0 y219 (wrap64 (x4_1 + 1))) = some r := by first | (rw [hy219]; with_reducible exact H) | (have H2_ := (Option.bind_some _ _).symm.trans H; rw [hy219]; with_reducible exact H2_) | (have H2_ := (Option.bind_some _ _).symm.trans H; with_reducible exact H2_) | with_reducible exact H | (rw [hy219]; exact H) | exact H
                have Ny219 := Aside0.mk hy219; clear hy219; have H' := Aside0.mk H; clear H
                try go_wp2
                replace HO_0 := Aside0.mk (Kd.V_drew HO_0.out); replace HO_3 := Aside0.mk (Kd.N_drew HO_3.out); replace HB := Aside0.mk (below_drew1 HB.out); obtain ⟨Ao28, co28, eo28⟩ := Kd.N_slice HO_3.out
                (first | subst eo28 | (injection eo28 with f1_ f2_ f3_; have f4_ := f1_.symm; have f5_ := f3_.symm; clear f1_ f2_ f3_; subst f4_; subst f5_))
                have p193 : 0 ≤ (x5_2 : Int) := of_decide_eq_true zq1; have q193 : x5_2 < (x3_1.length : Int) := of_decide_eq_true zq1; obtain ⟨ad193, A193_0, c193_0, e193, hx193_0, hl193_0, hi193_0⟩ := at_L3 (Kd.N_reads' HO_3.out).2.2 x5_2 p193 q193; cases e193; obtain ⟨ce193, hce193, hMe193, hcc193⟩ := Kd.N_get HO_3.out [] x5_2 p193 zq84; obtain ⟨ua193_0, uc193_0, rfl, ul193_0, ge193_0⟩ := Kd.FK_slice_open hMe193; have hv193_0 := hcc193 0 _ rfl; rw [Nat.add_zero, show ((Kd.slice 65 k65)).sz = 1 from rfl, Nat.mul_one] at hv193_0; replace hv193_0 := Option.some.inj (hv193_0.symm.trans hx193_0); injection hv193_0 with hva_ hvn_ hvc_
                rw [hva_] at ge193_0; rw [hvc_] at ul193_0; have HL193_0 := Aside0.mk (show Kd.V k65 65 _ w.heap.size _ _ (rd_L3 x3_1 x5_2) from Kd.V_mk ul193_0 ge193_0); clear hva_ hvn_ hvc_ ge193_0 ul193_0; clear hcc193 hce193; have HR193_0 := Aside0.mk hi193_0; have HC193_0 := Aside0.mk hl193_0; clear hi193_0 hl193_0; replace p193 := eq_true p193; replace q193 := eq_true q193; have p194 : 0 ≤ (x4_1 : Int) := of_decide_eq_true zq1; have q194 : x4_1 < (l0.length : Int) := of_decide_eq_true zq1; obtain ⟨ad194, A194_0, c194_0, e194, hx194_0, hx194_1, hx194_2, hl194_0, hi194_0⟩ := at_T41 (Kd.V_reads' HO_0.out).2.2 x4_1 p194 q194; cases e194; obtain ⟨ce194, hce194, hMe194, hcc194⟩ := Kd.V_get HO_0.out z41 x4_1 p194 zq83; obtain ⟨ua194_0, uc194_0, rfl, ul194_0, ge194_0⟩ := k41_openF hMe194; have hv194_0 := hcc194 0 _ rfl; rw [Nat.add_zero] at hv194_0; replace hv194_0 := Option.some.inj (hv194_0.symm.trans hx194_0); injection hv194_0 with hva_ hvn_ hvc_
                rw [hva_] at ge194_0; rw [hvc_] at ul194_0; have HL194_0 := Aside0.mk (show Kd.V k65 65 _ w.heap.size _ _ ((rd_T41 l0 x4_1).f0) from Kd.V_mk ul194_0 ge194_0); clear hva_ hvn_ hvc_ ge194_0 ul194_0; clear hcc194 hce194; have HR194_0 := Aside0.mk hi194_0; have HC194_0 := Aside0.mk hl194_0; clear hi194_0 hl194_0; replace p194 := eq_true p194; replace q194 := eq_true q194; refine start_ (n := 17) (S := fun w' => w'.cell? (ad193.add (x5_2).toNat) = some (.slice A193_0 (rd_L3 x3_1 x5_2).length c193_0) ∧ w'.cell? (ad194.add ((x4_1).toNat * 3)) = some (.slice A194_0 ((rd_T41 l0 x4_1).f0).length c194_0) ∧ w'.cell? ⟨(ad194.add ((x4_1).toNat * 3)).block, (ad194.add ((x4_1).toNat * 3)).off + 1, none⟩ = some (.int .i64 ((rd_T41 l0 x4_1).f1)) ∧ w'.cell? ⟨(ad194.add ((x4_1).toNat * 3)).block, (ad194.add ((x4_1).toNat * 3)).off + 2, none⟩ = some (.int .i64 ((rd_T41 l0 x4_1).f2))) (ds := []) #[false, false, false, false, false, false, false, false, false, false, false, false, false, false, false, false, false] zq17 rfl rfl ⟨hx193_0, hx194_0, hx194_1, hx194_2⟩ (fun hHeld => ?_); refine with_tabW r10_Rows.tab6 r10_Rows.bits6 (fun HT_ HW_ => ?_)
                generalize wr.drew = w27 at HO_0 HO_3 HB HL193_0 HL194_0 HR193_0 HR194_0 hx193_0 hx194_0 hx194_1 hx194_2 hHeld ⊢; refine pZ 0 14 ?_; refine pZ 1 15 ?_; refine pZ 2 16 ?_; refine pZ 3 17 ?_; refine pZ 4 18 ?_; refine pZ 5 19 ?_; refine pZ 6 20 ?_; refine pZ 7 21 ?_; refine pZ 9 23 ?_; refine pZ 10 24 ?_; refine pZ 11 25 ?_; refine pZ 12 26 ?_; refine tZ4 8 22 ?_; refine tZ4 13 27 ?_; refine oZ 14 28 (fun K hK => ?_); refine gY Tryz.func87 #[.slice A193_0 (rd_L3 x3_1 x5_2).length c193_0, .slice A194_0 ((rd_T41 l0 x4_1).f0).length c194_0] ?_
                with_reducible refine (r06_Compare.calls k2 _ _ (rd_L3 x3_1 x5_2) _ _ ((rd_T41 l0 x4_1).f0) t195 _ ?side1 ?side2 ?side3 ?side4 A9.out).mono ?_
                (case side1 => exact cQ (cQ HR193_0.out))
                (case side2 => exact HC193_0.out)
                (case side3 => exact cQ (cQ HR194_0.out))
                (case side4 => exact HC194_0.out)
                rintro e w29 ⟨rfl, hb⟩; have HS0_ := (hb.cell (World.block_lt_of_cell? _ _ (hHeld.1))).trans (hHeld.1); have HS1_ := (hb.cell (World.block_lt_of_cell? _ _ (hHeld.2.1))).trans (hHeld.2.1); have HS2_ := (hb.cell (World.block_lt_of_cell? _ _ (hHeld.2.2.1))).trans (hHeld.2.2.1); have HS3_ := (hb.cell (World.block_lt_of_cell? _ _ (hHeld.2.2.2))).trans (hHeld.2.2.2); refine ⟨_, rfl, ?_⟩; replace HO_0 := VB HO_0 hb; replace HO_3 := NB HO_3 hb; replace HL193_0 := VB HL193_0 hb; replace HL194_0 := VB HL194_0 hb; replace HR193_0 := CB HR193_0 hb; replace HR194_0 := CB HR194_0 hb; replace HB := BB HB hb
                (try clear hb)
                refine hK.out _ _ ⟨HS0_, HS1_, HS2_, HS3_⟩ (fun hHeld => ?_); clear hK K; refine nZ 28 ?_; refine pZ 15 29 ?_; refine pZ 16 30 ?_; refine done_ (done_of HT_.out zq17) ?_
                try go_wp2
                replace HO_0 := Aside0.mk (Kd.V_drew HO_0.out); replace HO_3 := Aside0.mk (Kd.N_drew HO_3.out); replace HL193_0 := Aside0.mk (Kd.V_drew HL193_0.out); replace HL194_0 := Aside0.mk (Kd.V_drew HL194_0.out); replace HR193_0 := Aside0.mk (Kd.C_drew HR193_0.out); replace HR194_0 := Aside0.mk (Kd.C_drew HR194_0.out); replace HB := Aside0.mk (below_drew1 HB.out); have p196 : 0 ≤ (x5_2 : Int) := of_decide_eq_true zq1; have q196 : x5_2 < (x3_1.length : Int) := of_decide_eq_true zq1; obtain ⟨ad196, A196_0, c196_0, e196, hx196_0, hl196_0, hi196_0⟩ := at_L3 (Kd.N_reads' HO_3.out).2.2 x5_2 p196 q196; obtain rfl : ad193 = ad196 := (by injection e196)
                obtain ⟨ce196, hce196, hMe196, hcc196⟩ := Kd.N_get HO_3.out [] x5_2 p196 (by first | exact q196 | exact of_decide_eq_true zq1 | (have e_ := (Kd.N_reads' HO_3.out).1; omega)); obtain ⟨ua196_0, uc196_0, rfl, ul196_0, ge196_0⟩ := Kd.FK_slice_open hMe196; have hv196_0 := hcc196 0 _ rfl; rw [Nat.add_zero, show ((Kd.slice 65 k65)).sz = 1 from rfl, Nat.mul_one] at hv196_0; replace hv196_0 := Option.some.inj (hv196_0.symm.trans hx196_0); injection hv196_0 with hva_ hvn_ hvc_
                rw [hva_] at ge196_0; rw [hvc_] at ul196_0; have HL196_0 := Aside0.mk (show Kd.V k65 65 _ w.heap.size _ _ (rd_L3 x3_1 x5_2) from Kd.V_mk ul196_0 ge196_0); clear hva_ hvn_ hvc_ ge196_0 ul196_0; clear hcc196 hce196; have HR196_0 := Aside0.mk hi196_0; have HC196_0 := Aside0.mk hl196_0; clear hi196_0 hl196_0; replace p196 := eq_true p196; replace q196 := eq_true q196; have p197 : 0 ≤ (x4_1 : Int) := of_decide_eq_true zq1; have q197 : x4_1 < (l0.length : Int) := of_decide_eq_true zq1; obtain ⟨ad197, A197_0, c197_0, e197, hx197_0, hx197_1, hx197_2, hl197_0, hi197_0⟩ := at_T41 (Kd.V_reads' HO_0.out).2.2 x4_1 p197 q197; obtain rfl : ad194 = ad197 := (by injection e197)
                obtain ⟨ce197, hce197, hMe197, hcc197⟩ := Kd.V_get HO_0.out z41 x4_1 p197 (by first | exact q197 | exact of_decide_eq_true zq1 | (have e_ := (Kd.V_reads' HO_0.out).1; omega)); obtain ⟨ua197_0, uc197_0, rfl, ul197_0, ge197_0⟩ := k41_openF hMe197; have hv197_0 := hcc197 0 _ rfl; rw [Nat.add_zero] at hv197_0; replace hv197_0 := Option.some.inj (hv197_0.symm.trans hx197_0); injection hv197_0 with hva_ hvn_ hvc_
                rw [hva_] at ge197_0; rw [hvc_] at ul197_0; have HL197_0 := Aside0.mk (show Kd.V k65 65 _ w.heap.size _ _ ((rd_T41 l0 x4_1).f0) from Kd.V_mk ul197_0 ge197_0); clear hva_ hvn_ hvc_ ge197_0 ul197_0; clear hcc197 hce197; have HR197_0 := Aside0.mk hi197_0; have HC197_0 := Aside0.mk hl197_0; clear hi197_0 hl197_0; replace p197 := eq_true p197; replace q197 := eq_true q197; refine start_ (n := 16) (S := fun w' => w'.cell? (ad193.add (x5_2).toNat) = some (.slice A196_0 (rd_L3 x3_1 x5_2).length c196_0) ∧ w'.cell? (ad194.add ((x4_1).toNat * 3)) = some (.slice A197_0 ((rd_T41 l0 x4_1).f0).length c197_0) ∧ w'.cell? ⟨(ad194.add ((x4_1).toNat * 3)).block, (ad194.add ((x4_1).toNat * 3)).off + 1, none⟩ = some (.int .i64 ((rd_T41 l0 x4_1).f1)) ∧ w'.cell? ⟨(ad194.add ((x4_1).toNat * 3)).block, (ad194.add ((x4_1).toNat * 3)).off + 2, none⟩ = some (.int .i64 ((rd_T41 l0 x4_1).f2))) (ds := []) #[false, false, false, false, false, false, false, false, false, false, false, false, false, false, false, false] zq17 rfl rfl ⟨hx196_0, hx197_0, hx197_1, hx197_2⟩ (fun hHeld => ?_); refine with_tabW r10_Rows.tab8 r10_Rows.bits8 (fun HT_ HW_ => ?_)
                generalize w29.drew = w30 at HO_0 HO_3 HL193_0 HL194_0 HR193_0 HR194_0 HB HL196_0 HL197_0 HR196_0 HR197_0 hx196_0 hx197_0 hx197_1 hx197_2 hHeld ⊢; refine pZ 0 33 ?_; refine pZ 1 34 ?_; refine pZ 2 35 ?_; refine pZ 3 36 ?_; refine pZ 4 37 ?_; refine pZ 5 38 ?_; refine pZ 6 39 ?_; refine pZ 7 40 ?_; refine pZ 9 42 ?_; refine pZ 10 43 ?_; refine pZ 11 44 ?_; refine pZ 12 45 ?_; refine tZ4 8 41 ?_; refine tZ4 13 46 ?_; refine oZ 14 47 (fun K hK => ?_); refine gY Tryz.func53 #[.slice A196_0 (rd_L3 x3_1 x5_2).length c196_0, .slice A197_0 ((rd_T41 l0 x4_1).f0).length c197_0] ?_
                with_reducible refine (r06_Same.calls k2 _ _ (rd_L3 x3_1 x5_2) _ _ ((rd_T41 l0 x4_1).f0) false _ ?side1 ?side2 ?side3 ?side4 A14.out).mono ?_
                (case side1 => exact cQ (cQ HR196_0.out))
                (case side2 => exact HC196_0.out)
                (case side3 => exact cQ (cQ HR197_0.out))
                (case side4 => exact HC197_0.out)
                rintro e w' ⟨rfl, ⟨nd, rfl⟩⟩; refine ⟨_, rfl, ?_⟩; refine hK.out _ _ ⟨hHeld.1, hHeld.2.1, hHeld.2.2.1, hHeld.2.2.2⟩ (fun hHeld => ?_); clear hK K; refine nZ 47 ?_; refine pZ 15 48 ?_; refine done_ (done_of HT_.out zq17) ?_
                try go_wp2_with (first | ((with_reducible refine gate_dst (N := 49) rfl ?_); refine Kd.N_lit (Kd.slice 65 k65) _ 39 ?hg (N' := 49) ?hd (xs := ([] : List (List (S65)))) (inner := []) (ok := (fun k_ => (P0_ k_ ∨ w.heap.size ≤ k_) ∧ some k_ ≠ (.slice (some ad193) x3_1.length co28 : Value).ownBlock)) (okp := (fun k_ => (P0_ k_ ∨ w.heap.size ≤ k_) ∧ some k_ ≠ (.slice (some ad193) x3_1.length co28 : Value).ownBlock)) ?hr ?hp (fun _ hk => hk) ((show ∀ k_, w30.heap.size ≤ k_ → (fun k_ => (P0_ k_ ∨ w.heap.size ≤ k_) ∧ some k_ ≠ (.slice (some ad193) x3_1.length co28 : Value).ownBlock) k_ from fun k_ hk => ⟨(.inr (Nat.le_trans (below_size zq0) hk)), Kd.fresh' (Kd.N_lt (nQ HO_3.out)) k_ hk⟩) _ (Nat.le_refl _)) (Below.refl _ _) (Nat.le_refl _) zq30 ?_; (case hd => rfl); (case hg => rfl); (case hr => first | (go_simp; done) | (go_simp; rfl)); (case hp => exact (Reps.none _ _)); intro v200 w31 ho32 hb hg_ hnew_; clear hg_ hnew_; (first | rw [← Ny199.out] at ho32 | (simp only [Int.reduceToNat] at ho32; rw [← Ny199.out] at ho32)); have HO201 := Aside0.mk (Kd.N_lower ho32 (below_size zq0)); replace HO_0 := Aside0.mk (Kd.V_elder' (vQ HO_0.out) (Kd.N_base ho32) hb); replace HO_3 := Aside0.mk (Kd.N_elder' (nQ HO_3.out) (Kd.N_base ho32) hb); replace HL193_0 := Aside0.mk (Kd.V_elder' (vQ HL193_0.out) (Kd.N_base ho32) hb); replace HL194_0 := Aside0.mk (Kd.V_elder' (vQ HL194_0.out) (Kd.N_base ho32) hb); replace HL196_0 := Aside0.mk (Kd.V_elder' (vQ HL196_0.out) (Kd.N_base ho32) hb); replace HL197_0 := Aside0.mk (Kd.V_elder' (vQ HL197_0.out) (Kd.N_base ho32) hb); replace HR193_0 := CB HR193_0 hb; replace HR194_0 := CB HR194_0 hb; replace HR196_0 := CB HR196_0 hb; replace HR197_0 := CB HR197_0 hb; replace HB := BB HB hb; clear hb ho32; have q33 : (x5_2 : Int) ≤ ((x3_1.length : Int) : Int) := of_decide_eq_true zq1; obtain ⟨i033, hi033, _, hsz33, _⟩ := info_parts info39; have hroom33 : x3_1.length ≤ co28 := (Kd.N_reads' HO_3.out).2.1; have hC33 : Kd.F (Kd.slice 65 k65) _ _ (some ad193) x3_1.length x3_1 := (Kd.V_at (base := w.heap.size) (Kd.N_V HO_3.out)).2.2; have hcut33 := cut_to (P := Tryz.prog) 93 39 .i64 Tryz.underlying93 hi033 (some ad193) x3_1.length co28 x5_2 (of_decide_eq_true zq1) q33 hroom33; have hr33 := Kd.F_take (m := (x5_2 : Int).toNat) hC33 zq4; have hy33 : y202.length = (x5_2 : Int).toNat := (by rw [Ny202.out, List.length_take]; omega); rw [← Ny202.out] at hr33; rw [← hy33] at hcut33; have HO206 := Aside0.mk (show Kd.V (Kd.slice 65 k65) 39 _ w.heap.size _ (.slice (some ad193) y202.length co28) y202 from Kd.V_mk zq4 hr33); have HC206 := Aside0.mk (show y202.length ≤ co28 from by omega); clear hr33 hC33 hroom33 hi033 hsz33; have KY33 := Aside0.mk hy33; clear hy33; replace q33 := eq_true q33) | ((with_reducible refine gate_builtin (b := .append) (xs := #[.tmp 49, .tmp 52]) rfl ?_); at_builtin; refine Kd.N_append_rows (Kd.slice 65 k65) (w0 := w) w.heap.size rfl (.tmp 49) (.tmp 52) 93 39 (.slice none 0 0) 24 rfl Tryz.underlying93 info39 rfl zq34 zq4 v200 y199 y202 _ _ _ (fun k_ => (P0_ k_ ∨ w.heap.size ≤ k_)) (fun k_ => ((fun k_ => (P0_ k_ ∨ w.heap.size ≤ k_))) k_ ∧ some k_ ≠ (v200 : Value).ownBlock) rfl rfl ?aO ?aR (fun _ hk => hk) ?aF ?aB ?aS ?aL ?_; (case aR => exact (by skip; exact Kd.V_F (Kd.V_mono (ok' := (fun k_ => ((fun k_ => (P0_ k_ ∨ w.heap.size ≤ k_))) k_ ∧ some k_ ≠ (v200 : Value).ownBlock)) (HO206.out) (fun k_ hk => ⟨hk.1, hk.2⟩)))); (case aB => exact zq0); (case aF => exact (fun k_ hk => (.inr (Nat.le_trans (below_size zq0) hk)))); (case aO => exact (by (with_reducible repeat (first | apply Kd.N_alloc | apply Kd.N_drewN | apply Kd.N_drew)); exact Kd.N_mono HO201.out (fun _ hk => hk.1))); (case aS => exact (below_size zq0)); (case aL => have := LMc22.out; omega); intro v208 w34 ho hb hg hat; rw [← Ny207.out] at ho; have HO209 := Aside0.mk (ho); replace HO_0 := Aside0.mk (Kd.V_afterv (ok := (fun k_ => (P0_ k_ ∨ w.heap.size ≤ k_) ∧ some k_ ≠ (.slice (some ad193) x3_1.length co28 : Value).ownBlock)) (vQ HO_0.out) hg hat); replace HO_3 := Aside0.mk (Kd.N_afterv (ok := (fun k_ => (P0_ k_ ∨ w.heap.size ≤ k_))) (nQ HO_3.out) hg hat); replace HL193_0 := Aside0.mk (Kd.V_afterv (ok := (fun k_ => (P0_ k_ ∨ w.heap.size ≤ k_) ∧ some k_ ≠ (.slice (some ad193) x3_1.length co28 : Value).ownBlock)) (vQ HL193_0.out) hg hat); replace HL194_0 := Aside0.mk (Kd.V_afterv (ok := (fun k_ => (P0_ k_ ∨ w.heap.size ≤ k_) ∧ some k_ ≠ (.slice (some ad193) x3_1.length co28 : Value).ownBlock)) (vQ HL194_0.out) hg hat); replace HL196_0 := Aside0.mk (Kd.V_afterv (ok := (fun k_ => (P0_ k_ ∨ w.heap.size ≤ k_) ∧ some k_ ≠ (.slice (some ad193) x3_1.length co28 : Value).ownBlock)) (vQ HL196_0.out) hg hat); replace HL197_0 := Aside0.mk (Kd.V_afterv (ok := (fun k_ => (P0_ k_ ∨ w.heap.size ≤ k_) ∧ some k_ ≠ (.slice (some ad193) x3_1.length co28 : Value).ownBlock)) (vQ HL197_0.out) hg hat); replace HO206 := Aside0.mk (Kd.V_afterv (ok := (fun k_ => (P0_ k_ ∨ w.heap.size ≤ k_))) (vQ HO206.out) hg hat); replace HB := Aside0.mk (hb); clear HO201; clear ho hb hg hat; have p210 : 0 ≤ (x4_1 : Int) := of_decide_eq_true zq1; have q210 : x4_1 < (l0.length : Int) := of_decide_eq_true zq1; obtain ⟨ad210, A210_0, c210_0, e210, hx210_0, hx210_1, hx210_2, hl210_0, hi210_0⟩ := at_T41 (Kd.V_reads' HO_0.out).2.2 x4_1 p210 q210; obtain rfl : ad194 = ad210 := (by injection e210); obtain ⟨ce210, hce210, hMe210, hcc210⟩ := Kd.V_get HO_0.out z41 x4_1 p210 (by first | exact q210 | exact of_decide_eq_true zq1 | (have e_ := (Kd.V_reads' HO_0.out).1; omega)); obtain ⟨ua210_0, uc210_0, rfl, ul210_0, ge210_0⟩ := k41_openF hMe210; have hv210_0 := hcc210 0 _ rfl; rw [Nat.add_zero] at hv210_0; replace hv210_0 := Option.some.inj (hv210_0.symm.trans hx210_0); injection hv210_0 with hva_ hvn_ hvc_; rw [hva_] at ge210_0; rw [hvc_] at ul210_0; have HL210_0 := Aside0.mk (show Kd.V k65 65 _ w.heap.size _ _ ((rd_T41 l0 x4_1).f0) from Kd.V_mk ul210_0 ge210_0); clear hva_ hvn_ hvc_ ge210_0 ul210_0; clear hcc210 hce210; have HR210_0 := Aside0.mk hi210_0; have HC210_0 := Aside0.mk hl210_0; clear hi210_0 hl210_0; replace p210 := eq_true p210; replace q210 := eq_true q210) | ((with_reducible refine gate_builtin (b := .append) (xs := #[.tmp 54, .tmp 60]) rfl ?_); at_builtin; refine Kd.N_append (Kd.slice 65 k65) (w0 := w) w.heap.size rfl (.tmp 54) (.tmp 60) 93 39 (.slice none 0 0) 24 rfl Tryz.underlying93 info39 rfl zq34 zq4 v208 y207 ((rd_T41 l0 x4_1).f0) [.slice A210_0 ((rd_T41 l0 x4_1).f0).length c210_0] (fun k_ => (P0_ k_ ∨ w.heap.size ≤ k_)) (fun k_ => ((fun k_ => (P0_ k_ ∨ w.heap.size ≤ k_))) k_ ∧ some k_ ≠ (v208 : Value).ownBlock) rfl rfl ?aP (fun _ hk => hk) ?aF ?aO ?aB ?aS ?aL ?_; (case aP => exact (Kd.FK_slice_mk (Kd.V_reads' (Kd.V_mono (ok' := (fun k_ => ((fun k_ => (P0_ k_ ∨ w.heap.size ≤ k_))) k_ ∧ some k_ ≠ (v208 : Value).ownBlock)) (HL210_0.out) (fun k_ hk => ⟨hk.1.1, hk.2⟩))).2.1 (Kd.V_F (Kd.V_mono (ok' := (fun k_ => ((fun k_ => (P0_ k_ ∨ w.heap.size ≤ k_))) k_ ∧ some k_ ≠ (v208 : Value).ownBlock)) (HL210_0.out) (fun k_ hk => ⟨hk.1.1, hk.2⟩))))); (case aB => exact zq0); (case aF => exact (fun k_ hk => (.inr (Nat.le_trans (below_size zq0) hk)))); (case aO => exact (nQ HO209.out)); (case aS => exact (below_size zq0)); (case aL => have := LMc23.out; omega); intro v212 w35 ho hb hg hat; rw [← Ny211.out] at ho; have HO213 := Aside0.mk (ho); replace HO_0 := Aside0.mk (Kd.V_afterv (ok := (fun k_ => (P0_ k_ ∨ w.heap.size ≤ k_) ∧ some k_ ≠ (.slice (some ad193) x3_1.length co28 : Value).ownBlock)) (vQ HO_0.out) hg hat); replace HO_3 := Aside0.mk (Kd.N_afterv (ok := (fun k_ => (P0_ k_ ∨ w.heap.size ≤ k_))) (nQ HO_3.out) hg hat); replace HL193_0 := Aside0.mk (Kd.V_afterv (ok := (fun k_ => (P0_ k_ ∨ w.heap.size ≤ k_) ∧ some k_ ≠ (.slice (some ad193) x3_1.length co28 : Value).ownBlock)) (vQ HL193_0.out) hg hat); replace HL194_0 := Aside0.mk (Kd.V_afterv (ok := (fun k_ => (P0_ k_ ∨ w.heap.size ≤ k_) ∧ some k_ ≠ (.slice (some ad193) x3_1.length co28 : Value).ownBlock)) (vQ HL194_0.out) hg hat); replace HL196_0 := Aside0.mk (Kd.V_afterv (ok := (fun k_ => (P0_ k_ ∨ w.heap.size ≤ k_) ∧ some k_ ≠ (.slice (some ad193) x3_1.length co28 : Value).ownBlock)) (vQ HL196_0.out) hg hat); replace HL197_0 := Aside0.mk (Kd.V_afterv (ok := (fun k_ => (P0_ k_ ∨ w.heap.size ≤ k_) ∧ some k_ ≠ (.slice (some ad193) x3_1.length co28 : Value).ownBlock)) (vQ HL197_0.out) hg hat); replace HO206 := Aside0.mk (Kd.V_afterv (ok := (fun k_ => (P0_ k_ ∨ w.heap.size ≤ k_))) (vQ HO206.out) hg hat); replace HL210_0 := Aside0.mk (Kd.V_afterv (ok := (fun k_ => (P0_ k_ ∨ w.heap.size ≤ k_) ∧ some k_ ≠ (.slice (some ad193) x3_1.length co28 : Value).ownBlock)) (vQ HL210_0.out) hg hat); replace HB := Aside0.mk (hb); clear HO209; clear ho hb hg hat; have q36 : (x5_2 : Int) ≤ ((x3_1.length : Int) : Int) := of_decide_eq_true zq1; obtain ⟨i036, hi036, _, hsz36, _⟩ := info_parts info39; have hroom36 : x3_1.length ≤ co28 := (Kd.N_reads' HO_3.out).2.1; have hC36 : Kd.F (Kd.slice 65 k65) _ _ (some ad193) x3_1.length x3_1 := (Kd.V_at (base := w.heap.size) (Kd.N_V HO_3.out)).2.2; have q036 : (0 : Int) ≤ (x5_2 : Int) := of_decide_eq_true zq1; have hcut36 := cut_from (P := Tryz.prog) 93 39 .i64 Tryz.underlying93 hi036 1 hsz36 (some ad193) x3_1.length co28 x5_2 q036 q36; have hr36 := Kd.F_cut (m := (x5_2 : Int).toNat) (c := co28) hC36 zq4 hroom36; obtain ⟨A36, hA36⟩ : ∃ A1, A1 = (if co28 = (x5_2 : Int).toNat then (some ad193) else ((some ad193) : Option Addr).map (·.add ((x5_2 : Int).toNat * 1))) := ⟨_, rfl⟩; obtain ⟨c36, hc36⟩ : ∃ c1, c1 = co28 - (x5_2 : Int).toNat := ⟨_, rfl⟩; have hy36 : y214.length = x3_1.length - (x5_2 : Int).toNat := (by rw [Ny214.out, List.length_drop] <;> omega); rw [show (x3_1).drop (x5_2 : Int).toNat = y214 from Ny214.out.symm] at hr36; replace hr36 : Kd.F (Kd.slice 65 k65) _ _ A36 y214.length y214 := (by rw [hA36]; exact hr36); rw [← hy36, ← hA36, ← hc36] at hcut36; have HO218 := Aside0.mk (show Kd.V (Kd.slice 65 k65) 39 _ w.heap.size _ (.slice A36 y214.length c36) y214 from Kd.V_mk (by rw [hy36, hc36]; exact Nat.sub_le_sub_right hroom36 _) hr36); have HC218 := Aside0.mk (show y214.length ≤ c36 from by rw [hy36, hc36]; exact Nat.sub_le_sub_right hroom36 _); clear hr36 hC36 hroom36 hi036 hsz36 hc36; have KY36 := Aside0.mk hy36; have KA36 := Aside0.mk hA36; clear hy36 hA36; replace q36 := eq_true q36) | ((with_reducible refine gate_builtin (b := .append) (xs := #[.tmp 62, .tmp 65]) rfl ?_); at_builtin; refine Kd.N_append_rows (Kd.slice 65 k65) (w0 := w) w.heap.size rfl (.tmp 62) (.tmp 65) 93 39 (.slice none 0 0) 24 rfl Tryz.underlying93 info39 rfl zq34 zq4 v212 y211 y214 _ _ _ (fun k_ => (P0_ k_ ∨ w.heap.size ≤ k_)) (fun k_ => ((fun k_ => (P0_ k_ ∨ w.heap.size ≤ k_))) k_ ∧ some k_ ≠ (v212 : Value).ownBlock) rfl rfl ?aO ?aR (fun _ hk => hk) ?aF ?aB ?aS ?aL ?_; (case aR => exact (by skip; exact Kd.V_F (Kd.V_mono (ok' := (fun k_ => ((fun k_ => (P0_ k_ ∨ w.heap.size ≤ k_))) k_ ∧ some k_ ≠ (v212 : Value).ownBlock)) (HO218.out) (fun k_ hk => ⟨hk.1, hk.2⟩)))); (case aB => exact zq0); (case aF => exact (fun k_ hk => (.inr (Nat.le_trans (below_size zq0) hk)))); (case aO => exact (nQ HO213.out)); (case aS => exact (below_size zq0)); (case aL => have := LMc26.out; omega); intro v220 w37 ho hb hg hat; rw [← Ny219.out] at ho; have HO221 := Aside0.mk (ho); replace HO_0 := Aside0.mk (Kd.V_afterv (ok := (fun k_ => (P0_ k_ ∨ w.heap.size ≤ k_) ∧ some k_ ≠ (.slice (some ad193) x3_1.length co28 : Value).ownBlock)) (vQ HO_0.out) hg hat); replace HO_3 := Aside0.mk (Kd.N_afterv (ok := (fun k_ => (P0_ k_ ∨ w.heap.size ≤ k_))) (nQ HO_3.out) hg hat); replace HL193_0 := Aside0.mk (Kd.V_afterv (ok := (fun k_ => (P0_ k_ ∨ w.heap.size ≤ k_) ∧ some k_ ≠ (.slice (some ad193) x3_1.length co28 : Value).ownBlock)) (vQ HL193_0.out) hg hat); replace HL194_0 := Aside0.mk (Kd.V_afterv (ok := (fun k_ => (P0_ k_ ∨ w.heap.size ≤ k_) ∧ some k_ ≠ (.slice (some ad193) x3_1.length co28 : Value).ownBlock)) (vQ HL194_0.out) hg hat); replace HL196_0 := Aside0.mk (Kd.V_afterv (ok := (fun k_ => (P0_ k_ ∨ w.heap.size ≤ k_) ∧ some k_ ≠ (.slice (some ad193) x3_1.length co28 : Value).ownBlock)) (vQ HL196_0.out) hg hat); replace HL197_0 := Aside0.mk (Kd.V_afterv (ok := (fun k_ => (P0_ k_ ∨ w.heap.size ≤ k_) ∧ some k_ ≠ (.slice (some ad193) x3_1.length co28 : Value).ownBlock)) (vQ HL197_0.out) hg hat); replace HO206 := Aside0.mk (Kd.V_afterv (ok := (fun k_ => (P0_ k_ ∨ w.heap.size ≤ k_))) (vQ HO206.out) hg hat); replace HL210_0 := Aside0.mk (Kd.V_afterv (ok := (fun k_ => (P0_ k_ ∨ w.heap.size ≤ k_) ∧ some k_ ≠ (.slice (some ad193) x3_1.length co28 : Value).ownBlock)) (vQ HL210_0.out) hg hat); replace HO218 := Aside0.mk (Kd.V_afterv (ok := (fun k_ => (P0_ k_ ∨ w.heap.size ≤ k_))) (vQ HO218.out) hg hat); replace HB := Aside0.mk (hb); clear HO213; clear ho hb hg hat))
                go_roundg k2
                case measure => have := HK1.out; have := HK2.out; omega
                case rel => exact ⟨(y219), (wrap64 (x4_1 + 1)), zq3, H', ⟨by have := HK1.out; have := HK2.out; omega⟩, ⟨zq69⟩, ⟨(by (with_reducible repeat (first | apply Kd.N_alloc | apply Kd.N_drewN | apply Kd.N_drew)); exact HO221.out)⟩, ⟨zq0⟩⟩
               ·rw [if_neg c26] at H
                exact absurd H zq30
              ·rw [if_neg c23] at H
               exact absurd H zq30
             ·rw [if_neg c22] at H
              exact absurd H zq30
            ·rw [if_neg c21] at H
             exact absurd H zq30
         ·rw [if_neg c8] at H
          exact absurd H zq30
        ·rw [if_neg c7] at H
         exact absurd H zq30
       ·rw [if_neg c6] at H
        exact absurd H zq30
      ·rw [if_neg c5] at H
       have c5b0 : decide (x5_2 < (x3_1.length : Int)) = false := decide_eq_false c5; clear c5; obtain ⟨y222, hy222⟩ : ∃ y_ : List (List (S65)), y_ = (([] : List (List (S65)))) := ⟨_, rfl⟩
       replace H : (if 0 ≤ x5_2 then (if x5_2 ≤ (x3_1.length : Int) then ((some (x3_1.take (x5_2 : Int).toNat : List (List (S65)))).bind fun y225 => (if y222.length + y225.length < 5864062014805 then ((some (y222 ++ y225 : List (List (S65)))).bind fun y230 => (if 0 ≤ x4_1 then (if x4_1 < (l0.length : Int) then (if y230.length < 5864062014805 then ((some (y230 ++ [(rd_T41 l0 x4_1).f0] : List (List (S65)))).bind fun y234 => ((some (x3_1.drop (x5_2 : Int).toNat : List (List (S65)))).bind fun y237 => (if y234.length + y237.length < 5864062014805 then (r10_Rows.l0 k2 l0 (y234 ++ y237) (wrap64 (x4_1 + 1))) else (none)))) else (none)) else (none)) else (none))) else (none))) else (none)) else (none)) = some r := by first | (rw [hy222]; with_reducible exact H) | (have H2_ := (Option.bind_some _ _).symm.trans H; rw [hy222]; with_reducible exact H2_) | (have H2_ := (Option.bind_some _ _).symm.trans H; with_reducible exact H2_) | with_reducible exact H | (rw [hy222]; exact H) | exact H
       have Ny222 := Aside0.mk hy222; clear hy222
       by_cases c38 : 0 ≤ x5_2
       ·rw [if_pos c38] at H
        have c38b0 := eq_true c38; have c38b1 : decide (0 ≤ x5_2) = true := decide_eq_true c38; clear c38
        by_cases c39 : x5_2 ≤ (x3_1.length : Int)
        ·rw [if_pos c39] at H
         have c39b0 := eq_true c39; have c39b1 : decide (x5_2 ≤ (x3_1.length : Int)) = true := decide_eq_true c39; clear c39; obtain ⟨y225, hy225⟩ : ∃ y_ : List (List (S65)), y_ = (x3_1.take (x5_2 : Int).toNat) := ⟨_, rfl⟩
         replace H : (if y222.length + y225.length < 5864062014805 then ((some (y222 ++ y225 : List (List (S65)))).bind fun y230 => (if 0 ≤ x4_1 then (if x4_1 < (l0.length : Int) then (if y230.length < 5864062014805 then ((some (y230 ++ [(rd_T41 l0 x4_1).f0] : List (List (S65)))).bind fun y234 => ((some (x3_1.drop (x5_2 : Int).toNat : List (List (S65)))).bind fun y237 => (if y234.length + y237.length < 5864062014805 then (r10_Rows.l0 k2 l0 (y234 ++ y237) (wrap64 (x4_1 + 1))) else (none)))) else (none)) else (none)) else (none))) else (none)) = some r := by first | (rw [hy225]; with_reducible exact H) | (have H2_ := (Option.bind_some _ _).symm.trans H; rw [hy225]; with_reducible exact H2_) | (have H2_ := (Option.bind_some _ _).symm.trans H; with_reducible exact H2_) | with_reducible exact H | (rw [hy225]; exact H) | exact H
         have Ny225 := Aside0.mk hy225; clear hy225
         by_cases c40 : y222.length + y225.length < 5864062014805
         ·rw [if_pos c40] at H
          have LMc40 := Aside0.mk c40; clear c40; obtain ⟨y230, hy230⟩ : ∃ y_ : List (List (S65)), y_ = (y222 ++ y225) := ⟨_, rfl⟩
          replace H : (if 0 ≤ x4_1 then (if x4_1 < (l0.length : Int) then (if y230.length < 5864062014805 then ((some (y230 ++ [(rd_T41 l0 x4_1).f0] : List (List (S65)))).bind fun y234 => ((some (x3_1.drop (x5_2 : Int).toNat : List (List (S65)))).bind fun y237 => (if y234.length + y237.length < 5864062014805 then (r10_Rows.l0 k2 l0 (y234 ++ y237) (wrap64 (x4_1 + 1))) else (none)))) else (none)) else (none)) else (none)) = some r := by first | (rw [hy230]; with_reducible exact H) | (have H2_ := (Option.bind_some _ _).symm.trans H; rw [hy230]; with_reducible exact H2_) | (have H2_ := (Option.bind_some _ _).symm.trans H; with_reducible exact H2_) | with_reducible exact H | (rw [hy230]; exact H) | exact H
          have Ny230 := Aside0.mk hy230; clear hy230
          by_cases c41 : 0 ≤ x4_1
          ·rw [if_pos c41] at H
           have c41b0 : decide (0 ≤ x4_1) = true := decide_eq_true c41; clear c41
           by_cases c42 : x4_1 < (l0.length : Int)
           ·rw [if_pos c42] at H
            have c42b0 : decide (x4_1 < (l0.length : Int)) = true := decide_eq_true c42; clear c42
            by_cases c43 : y230.length < 5864062014805
            ·rw [if_pos c43] at H
             have LMc43 := Aside0.mk c43; clear c43; obtain ⟨y234, hy234⟩ : ∃ y_ : List (List (S65)), y_ = (y230 ++ [(rd_T41 l0 x4_1).f0]) := ⟨_, rfl⟩
             replace H : ((some (x3_1.drop (x5_2 : Int).toNat : List (List (S65)))).bind fun y237 => (if y234.length + y237.length < 5864062014805 then (r10_Rows.l0 k2 l0 (y234 ++ y237) (wrap64 (x4_1 + 1))) else (none))) = some r := by first | (rw [hy234]; with_reducible exact H) | (have H2_ := (Option.bind_some _ _).symm.trans H; rw [hy234]; with_reducible exact H2_) | (have H2_ := (Option.bind_some _ _).symm.trans H; with_reducible exact H2_) | with_reducible exact H | (rw [hy234]; exact H) | exact H
             have Ny234 := Aside0.mk hy234; clear hy234; have c44b0 := eq_true (of_decide_eq_true zq1 : 0 ≤ x5_2); have c45b0 := eq_true (of_decide_eq_true zq1 : x5_2 ≤ (x3_1.length : Int)); obtain ⟨y237, hy237⟩ : ∃ y_ : List (List (S65)), y_ = (x3_1.drop (x5_2 : Int).toNat) := ⟨_, rfl⟩
             replace H : (if y234.length + y237.length < 5864062014805 then (r10_Rows.l0 k2 l0 (y234 ++ y237) (wrap64 (x4_1 + 1))) else (none)) = some r := by first | (rw [hy237]; with_reducible exact H) | (have H2_ := (Option.bind_some _ _).symm.trans H; rw [hy237]; with_reducible exact H2_) | (have H2_ := (Option.bind_some _ _).symm.trans H; with_reducible exact H2_) | with_reducible exact H | (rw [hy237]; exact H) | exact H
             have Ny237 := Aside0.mk hy237; clear hy237
             by_cases c46 : y234.length + y237.length < 5864062014805
             ·rw [if_pos c46] at H
              have LMc46 := Aside0.mk c46; clear c46; obtain ⟨y242, hy242⟩ : ∃ y_ : List (List (S65)), y_ = (y234 ++ y237) := ⟨_, rfl⟩
              replace H : (r10_Rows.l0 k2 l0 y242 (wrap64 (x4_1 + 1))) = some r := by first | (rw [hy242]; with_reducible exact H) | (have H2_ := (Option.bind_some _ _).symm.trans H; rw [hy242]; with_reducible exact H2_) | (have H2_ := (Option.bind_some _ _).symm.trans H; with_reducible exact H2_) | with_reducible exact H | (rw [hy242]; exact H) | exact H
              have Ny242 := Aside0.mk hy242; clear hy242; have H' := Aside0.mk H; clear H
              try go_wp2
              replace HO_0 := Aside0.mk (Kd.V_drew HO_0.out); replace HO_3 := Aside0.mk (Kd.N_drew HO_3.out); replace HB := Aside0.mk (below_drew1 HB.out); obtain ⟨Ao48, co48, eo48⟩ := Kd.N_slice HO_3.out
              (first | subst eo48 | (injection eo48 with f1_ f2_ f3_; have f4_ := f1_.symm; have f5_ := f3_.symm; clear f1_ f2_ f3_; subst f4_; subst f5_))
              refine start_ (n := 17) (S := fun w' => True) (ds := []) #[false, false, false, false, false, false, false, false, false, false, false, false, false, false, false, false, false] zq17 rfl rfl trivial (fun hHeld => ?_); refine with_tabW r10_Rows.tab6 r10_Rows.bits6 (fun HT_ HW_ => ?_)
              generalize wr.drew = w47 at HO_0 HO_3 HB hHeld ⊢; refine pZ 0 14 ?_; refine pZ 1 15 ?_; refine pZ 2 16 ?_; refine pZ 3 17 ?_; refine pZ 4 18 ?_; refine uZ 5 19 ?_; refine uZ 6 20 ?_; refine uZ 7 21 ?_; refine uZ 8 22 ?_; refine uZ 9 23 ?_; refine uZ 10 24 ?_; refine uZ 11 25 ?_; refine uZ 12 26 ?_; refine uZ 13 27 ?_; refine uZ 14 28 ?_; refine uZ 15 29 ?_; refine pZ 16 30 ?_; refine done_ (done_of HT_.out zq17) ?_
              try go_wp2
              replace HO_0 := Aside0.mk (Kd.V_drew HO_0.out); replace HO_3 := Aside0.mk (Kd.N_drew HO_3.out); replace HB := Aside0.mk (below_drew1 HB.out); refine start_ (n := 16) (S := fun w' => True) (ds := []) #[false, false, false, false, false, false, false, false, false, false, false, false, false, false, false, false] zq17 rfl rfl trivial (fun hHeld => ?_); refine with_tabW r10_Rows.tab8 r10_Rows.bits8 (fun HT_ HW_ => ?_)
              generalize w47.drew = w49 at HO_0 HO_3 HB hHeld ⊢; refine pZ 0 33 ?_; refine pZ 1 34 ?_; refine pZ 2 35 ?_; refine pZ 3 36 ?_; refine pZ 4 37 ?_; refine uZ 5 38 ?_; refine uZ 6 39 ?_; refine uZ 7 40 ?_; refine uZ 8 41 ?_; refine uZ 9 42 ?_; refine uZ 10 43 ?_; refine uZ 11 44 ?_; refine uZ 12 45 ?_; refine uZ 13 46 ?_; refine uZ 14 47 ?_; refine pZ 15 48 ?_; refine done_ (done_of HT_.out zq17) ?_
              try go_wp2_with (first | ((with_reducible refine gate_dst (N := 49) rfl ?_); refine Kd.N_lit (Kd.slice 65 k65) _ 39 ?hg (N' := 49) ?hd (xs := ([] : List (List (S65)))) (inner := []) (ok := (fun k_ => (P0_ k_ ∨ w.heap.size ≤ k_) ∧ some k_ ≠ (.slice Ao48 x3_1.length co48 : Value).ownBlock)) (okp := (fun k_ => (P0_ k_ ∨ w.heap.size ≤ k_) ∧ some k_ ≠ (.slice Ao48 x3_1.length co48 : Value).ownBlock)) ?hr ?hp (fun _ hk => hk) ((show ∀ k_, w49.heap.size ≤ k_ → (fun k_ => (P0_ k_ ∨ w.heap.size ≤ k_) ∧ some k_ ≠ (.slice Ao48 x3_1.length co48 : Value).ownBlock) k_ from fun k_ hk => ⟨(.inr (Nat.le_trans (below_size zq0) hk)), Kd.fresh' (Kd.N_lt (nQ HO_3.out)) k_ hk⟩) _ (Nat.le_refl _)) (Below.refl _ _) (Nat.le_refl _) zq30 ?_; (case hd => rfl); (case hg => rfl); (case hr => first | (go_simp; done) | (go_simp; rfl)); (case hp => exact (Reps.none _ _)); intro v223 w50 ho51 hb hg_ hnew_; clear hg_ hnew_; (first | rw [← Ny222.out] at ho51 | (simp only [Int.reduceToNat] at ho51; rw [← Ny222.out] at ho51)); have HO224 := Aside0.mk (Kd.N_lower ho51 (below_size zq0)); replace HO_0 := Aside0.mk (Kd.V_elder' (vQ HO_0.out) (Kd.N_base ho51) hb); replace HO_3 := Aside0.mk (Kd.N_elder' (nQ HO_3.out) (Kd.N_base ho51) hb); replace HB := BB HB hb; clear hb ho51; have q52 : (x5_2 : Int) ≤ ((x3_1.length : Int) : Int) := of_decide_eq_true zq1; obtain ⟨i052, hi052, _, hsz52, _⟩ := info_parts info39; have hroom52 : x3_1.length ≤ co48 := (Kd.N_reads' HO_3.out).2.1; have hC52 : Kd.F (Kd.slice 65 k65) _ _ Ao48 x3_1.length x3_1 := (Kd.V_at (base := w.heap.size) (Kd.N_V HO_3.out)).2.2; have hcut52 := cut_to (P := Tryz.prog) 93 39 .i64 Tryz.underlying93 hi052 Ao48 x3_1.length co48 x5_2 (of_decide_eq_true zq1) q52 hroom52; have hr52 := Kd.F_take (m := (x5_2 : Int).toNat) hC52 zq4; have hy52 : y225.length = (x5_2 : Int).toNat := (by rw [Ny225.out, List.length_take]; omega); rw [← Ny225.out] at hr52; rw [← hy52] at hcut52; have HO229 := Aside0.mk (show Kd.V (Kd.slice 65 k65) 39 _ w.heap.size _ (.slice Ao48 y225.length co48) y225 from Kd.V_mk zq4 hr52); have HC229 := Aside0.mk (show y225.length ≤ co48 from by omega); clear hr52 hC52 hroom52 hi052 hsz52; have KY52 := Aside0.mk hy52; clear hy52; replace q52 := eq_true q52) | ((with_reducible refine gate_builtin (b := .append) (xs := #[.tmp 49, .tmp 52]) rfl ?_); at_builtin; refine Kd.N_append_rows (Kd.slice 65 k65) (w0 := w) w.heap.size rfl (.tmp 49) (.tmp 52) 93 39 (.slice none 0 0) 24 rfl Tryz.underlying93 info39 rfl zq34 zq4 v223 y222 y225 _ _ _ (fun k_ => (P0_ k_ ∨ w.heap.size ≤ k_)) (fun k_ => ((fun k_ => (P0_ k_ ∨ w.heap.size ≤ k_))) k_ ∧ some k_ ≠ (v223 : Value).ownBlock) rfl rfl ?aO ?aR (fun _ hk => hk) ?aF ?aB ?aS ?aL ?_; (case aR => exact (by skip; exact Kd.V_F (Kd.V_mono (ok' := (fun k_ => ((fun k_ => (P0_ k_ ∨ w.heap.size ≤ k_))) k_ ∧ some k_ ≠ (v223 : Value).ownBlock)) (HO229.out) (fun k_ hk => ⟨hk.1, hk.2⟩)))); (case aB => exact zq0); (case aF => exact (fun k_ hk => (.inr (Nat.le_trans (below_size zq0) hk)))); (case aO => exact (by (with_reducible repeat (first | apply Kd.N_alloc | apply Kd.N_drewN | apply Kd.N_drew)); exact Kd.N_mono HO224.out (fun _ hk => hk.1))); (case aS => exact (below_size zq0)); (case aL => have := LMc40.out; omega); intro v231 w53 ho hb hg hat; rw [← Ny230.out] at ho; have HO232 := Aside0.mk (ho); replace HO_0 := Aside0.mk (Kd.V_afterv (ok := (fun k_ => (P0_ k_ ∨ w.heap.size ≤ k_) ∧ some k_ ≠ (.slice Ao48 x3_1.length co48 : Value).ownBlock)) (vQ HO_0.out) hg hat); replace HO_3 := Aside0.mk (Kd.N_afterv (ok := (fun k_ => (P0_ k_ ∨ w.heap.size ≤ k_))) (nQ HO_3.out) hg hat); replace HO229 := Aside0.mk (Kd.V_afterv (ok := (fun k_ => (P0_ k_ ∨ w.heap.size ≤ k_))) (vQ HO229.out) hg hat); replace HB := Aside0.mk (hb); clear HO224; clear ho hb hg hat; have p233 : 0 ≤ (x4_1 : Int) := of_decide_eq_true zq1; have q233 : x4_1 < (l0.length : Int) := of_decide_eq_true zq1; obtain ⟨ad233, A233_0, c233_0, e233, hx233_0, hx233_1, hx233_2, hl233_0, hi233_0⟩ := at_T41 (Kd.V_reads' HO_0.out).2.2 x4_1 p233 q233; cases e233; obtain ⟨ce233, hce233, hMe233, hcc233⟩ := Kd.V_get HO_0.out z41 x4_1 p233 (by first | exact q233 | exact of_decide_eq_true zq1 | (have e_ := (Kd.V_reads' HO_0.out).1; omega)); obtain ⟨ua233_0, uc233_0, rfl, ul233_0, ge233_0⟩ := k41_openF hMe233; have hv233_0 := hcc233 0 _ rfl; rw [Nat.add_zero] at hv233_0; replace hv233_0 := Option.some.inj (hv233_0.symm.trans hx233_0); injection hv233_0 with hva_ hvn_ hvc_; rw [hva_] at ge233_0; rw [hvc_] at ul233_0; have HL233_0 := Aside0.mk (show Kd.V k65 65 _ w.heap.size _ _ ((rd_T41 l0 x4_1).f0) from Kd.V_mk ul233_0 ge233_0); clear hva_ hvn_ hvc_ ge233_0 ul233_0; clear hcc233 hce233; have HR233_0 := Aside0.mk hi233_0; have HC233_0 := Aside0.mk hl233_0; clear hi233_0 hl233_0; replace p233 := eq_true p233; replace q233 := eq_true q233) | ((with_reducible refine gate_builtin (b := .append) (xs := #[.tmp 54, .tmp 60]) rfl ?_); at_builtin; refine Kd.N_append (Kd.slice 65 k65) (w0 := w) w.heap.size rfl (.tmp 54) (.tmp 60) 93 39 (.slice none 0 0) 24 rfl Tryz.underlying93 info39 rfl zq34 zq4 v231 y230 ((rd_T41 l0 x4_1).f0) [.slice A233_0 ((rd_T41 l0 x4_1).f0).length c233_0] (fun k_ => (P0_ k_ ∨ w.heap.size ≤ k_)) (fun k_ => ((fun k_ => (P0_ k_ ∨ w.heap.size ≤ k_))) k_ ∧ some k_ ≠ (v231 : Value).ownBlock) rfl rfl ?aP (fun _ hk => hk) ?aF ?aO ?aB ?aS ?aL ?_; (case aP => exact (Kd.FK_slice_mk (Kd.V_reads' (Kd.V_mono (ok' := (fun k_ => ((fun k_ => (P0_ k_ ∨ w.heap.size ≤ k_))) k_ ∧ some k_ ≠ (v231 : Value).ownBlock)) (HL233_0.out) (fun k_ hk => ⟨hk.1.1, hk.2⟩))).2.1 (Kd.V_F (Kd.V_mono (ok' := (fun k_ => ((fun k_ => (P0_ k_ ∨ w.heap.size ≤ k_))) k_ ∧ some k_ ≠ (v231 : Value).ownBlock)) (HL233_0.out) (fun k_ hk => ⟨hk.1.1, hk.2⟩))))); (case aB => exact zq0); (case aF => exact (fun k_ hk => (.inr (Nat.le_trans (below_size zq0) hk)))); (case aO => exact (nQ HO232.out)); (case aS => exact (below_size zq0)); (case aL => have := LMc43.out; omega); intro v235 w54 ho hb hg hat; rw [← Ny234.out] at ho; have HO236 := Aside0.mk (ho); replace HO_0 := Aside0.mk (Kd.V_afterv (ok := (fun k_ => (P0_ k_ ∨ w.heap.size ≤ k_) ∧ some k_ ≠ (.slice Ao48 x3_1.length co48 : Value).ownBlock)) (vQ HO_0.out) hg hat); replace HO_3 := Aside0.mk (Kd.N_afterv (ok := (fun k_ => (P0_ k_ ∨ w.heap.size ≤ k_))) (nQ HO_3.out) hg hat); replace HO229 := Aside0.mk (Kd.V_afterv (ok := (fun k_ => (P0_ k_ ∨ w.heap.size ≤ k_))) (vQ HO229.out) hg hat); replace HL233_0 := Aside0.mk (Kd.V_afterv (ok := (fun k_ => (P0_ k_ ∨ w.heap.size ≤ k_) ∧ some k_ ≠ (.slice Ao48 x3_1.length co48 : Value).ownBlock)) (vQ HL233_0.out) hg hat); replace HB := Aside0.mk (hb); clear HO232; clear ho hb hg hat; have q55 : (x5_2 : Int) ≤ ((x3_1.length : Int) : Int) := of_decide_eq_true zq1; obtain ⟨i055, hi055, _, hsz55, _⟩ := info_parts info39; have hroom55 : x3_1.length ≤ co48 := (Kd.N_reads' HO_3.out).2.1; have hC55 : Kd.F (Kd.slice 65 k65) _ _ Ao48 x3_1.length x3_1 := (Kd.V_at (base := w.heap.size) (Kd.N_V HO_3.out)).2.2; have q055 : (0 : Int) ≤ (x5_2 : Int) := of_decide_eq_true zq1; have hcut55 := cut_from (P := Tryz.prog) 93 39 .i64 Tryz.underlying93 hi055 1 hsz55 Ao48 x3_1.length co48 x5_2 q055 q55; have hr55 := Kd.F_cut (m := (x5_2 : Int).toNat) (c := co48) hC55 zq4 hroom55; obtain ⟨A55, hA55⟩ : ∃ A1, A1 = (if co48 = (x5_2 : Int).toNat then Ao48 else (Ao48 : Option Addr).map (·.add ((x5_2 : Int).toNat * 1))) := ⟨_, rfl⟩; obtain ⟨c55, hc55⟩ : ∃ c1, c1 = co48 - (x5_2 : Int).toNat := ⟨_, rfl⟩; have hy55 : y237.length = x3_1.length - (x5_2 : Int).toNat := (by rw [Ny237.out, List.length_drop] <;> omega); rw [show (x3_1).drop (x5_2 : Int).toNat = y237 from Ny237.out.symm] at hr55; replace hr55 : Kd.F (Kd.slice 65 k65) _ _ A55 y237.length y237 := (by rw [hA55]; exact hr55); rw [← hy55, ← hA55, ← hc55] at hcut55; have HO241 := Aside0.mk (show Kd.V (Kd.slice 65 k65) 39 _ w.heap.size _ (.slice A55 y237.length c55) y237 from Kd.V_mk (by rw [hy55, hc55]; exact Nat.sub_le_sub_right hroom55 _) hr55); have HC241 := Aside0.mk (show y237.length ≤ c55 from by rw [hy55, hc55]; exact Nat.sub_le_sub_right hroom55 _); clear hr55 hC55 hroom55 hi055 hsz55 hc55; have KY55 := Aside0.mk hy55; have KA55 := Aside0.mk hA55; clear hy55 hA55; replace q55 := eq_true q55) | ((with_reducible refine gate_builtin (b := .append) (xs := #[.tmp 62, .tmp 65]) rfl ?_); at_builtin; refine Kd.N_append_rows (Kd.slice 65 k65) (w0 := w) w.heap.size rfl (.tmp 62) (.tmp 65) 93 39 (.slice none 0 0) 24 rfl Tryz.underlying93 info39 rfl zq34 zq4 v235 y234 y237 _ _ _ (fun k_ => (P0_ k_ ∨ w.heap.size ≤ k_)) (fun k_ => ((fun k_ => (P0_ k_ ∨ w.heap.size ≤ k_))) k_ ∧ some k_ ≠ (v235 : Value).ownBlock) rfl rfl ?aO ?aR (fun _ hk => hk) ?aF ?aB ?aS ?aL ?_; (case aR => exact (by skip; exact Kd.V_F (Kd.V_mono (ok' := (fun k_ => ((fun k_ => (P0_ k_ ∨ w.heap.size ≤ k_))) k_ ∧ some k_ ≠ (v235 : Value).ownBlock)) (HO241.out) (fun k_ hk => ⟨hk.1, hk.2⟩)))); (case aB => exact zq0); (case aF => exact (fun k_ hk => (.inr (Nat.le_trans (below_size zq0) hk)))); (case aO => exact (nQ HO236.out)); (case aS => exact (below_size zq0)); (case aL => have := LMc46.out; omega); intro v243 w56 ho hb hg hat; rw [← Ny242.out] at ho; have HO244 := Aside0.mk (ho); replace HO_0 := Aside0.mk (Kd.V_afterv (ok := (fun k_ => (P0_ k_ ∨ w.heap.size ≤ k_) ∧ some k_ ≠ (.slice Ao48 x3_1.length co48 : Value).ownBlock)) (vQ HO_0.out) hg hat); replace HO_3 := Aside0.mk (Kd.N_afterv (ok := (fun k_ => (P0_ k_ ∨ w.heap.size ≤ k_))) (nQ HO_3.out) hg hat); replace HO229 := Aside0.mk (Kd.V_afterv (ok := (fun k_ => (P0_ k_ ∨ w.heap.size ≤ k_))) (vQ HO229.out) hg hat); replace HL233_0 := Aside0.mk (Kd.V_afterv (ok := (fun k_ => (P0_ k_ ∨ w.heap.size ≤ k_) ∧ some k_ ≠ (.slice Ao48 x3_1.length co48 : Value).ownBlock)) (vQ HL233_0.out) hg hat); replace HO241 := Aside0.mk (Kd.V_afterv (ok := (fun k_ => (P0_ k_ ∨ w.heap.size ≤ k_))) (vQ HO241.out) hg hat); replace HB := Aside0.mk (hb); clear HO236; clear ho hb hg hat))
              go_roundg k2
              case measure => have := HK1.out; have := HK2.out; omega
              case rel => exact ⟨(y242), (wrap64 (x4_1 + 1)), zq3, H', ⟨by have := HK1.out; have := HK2.out; omega⟩, ⟨zq69⟩, ⟨(by (with_reducible repeat (first | apply Kd.N_alloc | apply Kd.N_drewN | apply Kd.N_drew)); exact HO244.out)⟩, ⟨zq0⟩⟩
             ·rw [if_neg c46] at H
              exact absurd H zq30
            ·rw [if_neg c43] at H
             exact absurd H zq30
           ·rw [if_neg c42] at H
            exact absurd H zq30
          ·rw [if_neg c41] at H
           exact absurd H zq30
         ·rw [if_neg c40] at H
          exact absurd H zq30
        ·rw [if_neg c39] at H
         exact absurd H zq30
       ·rw [if_neg c38] at H
        exact absurd H zq30
   ·rw [if_neg c4] at H
    have c4b0 : decide (x4_1 < (l0.length : Int)) = false := decide_eq_false c4; clear c4; obtain rfl := Option.some.inj H; go_wp2; go_ret; exact ⟨_, zq2, zq56, zq0⟩
attribute [local go_sem] max2_int min2_int max_two min_two max_three min_three max_four min_four
mutual
def r09_May.l0 : Nat → List (S85) → Int → Option (Bool)
 | 0, _, _ => none
 | k + 1, x0, x3 => if x3 < (x0.length : Int) then (if 0 ≤ x3 then (if ((rd_T85 x0 x3).f0) < (-1) then (r09_May.j1 k x0 x3 true) else (if ((rd_T85 x0 x3).f0) ≥ 1125899906842624 then (r09_May.j1 k x0 x3 true) else (if ((rd_T85 x0 x3).f1) = 0 then (r09_May.j1 k x0 x3 true) else (if ((rd_T85 x0 x3).f1) > 1048576 then (r09_May.j1 k x0 x3 true) else (r09_May.j1 k x0 x3 (decide (((rd_T85 x0 x3).f1) < (-1048576)))))))) else (none)) else (some true)
def r09_May.j1 : Nat → List (S85) → Int → Bool → Option (Bool)
 | 0, _, _, _ => none
 | k + 1, x0, x3, x50 => if x50 = true then (some false) else (if x3 > 0 then (if 0 ≤ x3 then (if x3 < (x0.length : Int) then (if 0 ≤ (wrap64 (x3 - 1)) then (if (wrap64 (x3 - 1)) < (x0.length : Int) then (if ((rd_T85 x0 x3).f0) ≤ ((rd_T85 x0 (wrap64 (x3 - 1))).f0) then (some false) else (r09_May.l0 k x0 (wrap64 (x3 + 1)))) else (none)) else (none)) else (none)) else (none)) else (r09_May.l0 k x0 (wrap64 (x3 + 1))))
end
def r09_May.f (k : Nat) (l0 : List (S85)) : Option (Bool) := if (l0.length : Int) > 1024 then (some false) else (r09_May.l0 k l0 0)
theorem r09_May.calls (k : Nat) (A0 : Option Addr) (c0 : Nat) (l0 : List (S85)) (r : Bool) (w : World) (hr0 : Kd.C k85 w A0 l0.length l0) (hc0 : l0.length ≤ c0) (h : r09_May.f k l0 = some r) :
  Calls Tryz.prog 79 #[.slice A0 l0.length c0] w fun e w' => e = .returned (.bool r) ∧ Drawn0 w w' := by
 have HR0 := Aside0.mk hr0; have HC0 := Aside0.mk hc0; clear hr0 hc0; have H : (if (l0.length : Int) > 1024 then (some false) else (r09_May.l0 k l0 0)) = some r := h; clear h
 by_cases c2 : (l0.length : Int) > 1024
 ·rw [if_pos c2] at H
  have c2b0 : decide (1024 < (l0.length : Int)) = true := decide_eq_true c2; have c2b1 : decide (1024 < l0.length) = true := decide_eq_true zq4; clear c2; obtain rfl := Option.some.inj H; go_enter Tryz.func79, Tryz.ntmps79; go_wp2
  repeat (go_quiet (fail); try go_wp2)
  go_ret; exact ⟨zq3, zq5⟩
 ·rw [if_neg c2] at H
  have c2b0 : decide (1024 < (l0.length : Int)) = false := decide_eq_false c2; have c2b1 : decide (1024 < l0.length) = false := decide_eq_false zq4; clear c2; have H' := Aside0.mk H; clear H; go_enter Tryz.func79, Tryz.ntmps79; go_wp2
  repeat (go_quiet (fail); try go_wp2)
  go_loopg [3] k (fun kq v3 w' => ∃ (x3_1 : Int), v3 = .int .i64 x3_1 ∧ Aside0 (r09_May.l0 kq l0 x3_1 = some r) ∧ Aside0 (kq ≤ k) ∧ Drawn0 w w')
  case atStart => exact ⟨(0), zq3, H', ⟨Nat.le_refl _⟩, zq5⟩
  case round =>
   clear H'
   try clear c2
   try clear c2b0
   try clear c2b1
   try clear p2
   obtain ⟨x3_1, rfl, HA, HK1, ⟨m1, rfl⟩⟩ := hrel; cases gk with
   | zero => exact absurd HA.out (by simp [r09_May.l0])
   | succ k1 =>
    have H := HA.out; clear HA; simp only [r09_May.l0] at H
    by_cases c3 : x3_1 < (l0.length : Int)
    ·rw [if_pos c3] at H
     have c3b0 : decide (x3_1 < (l0.length : Int)) = true := decide_eq_true c3; clear c3; have HC4 := Aside0.mk H; clear H
     go_upto_region 6 with (fail)
     repeat (go_quiet (fail); go_upto_region 6 with (fail))
     go_cut [50] (fun v50 wc => ∃ (kq : Nat) (x50_3 : Bool), v50 = .bool x50_3 ∧ Aside0 (r09_May.j1 kq l0 x3_1 x50_3 = some r) ∧ Aside0 (kq ≤ k1) ∧ Drawn0 w wc)
     case first =>
      have H := HC4.out; clear HC4
      by_cases c5 : 0 ≤ x3_1
      ·rw [if_pos c5] at H
       have c5b0 : decide (0 ≤ x3_1) = true := decide_eq_true c5; clear c5
       (first | rw [c5b0] | (simp only [i64_w, i32_w]; rw [c5b0]) | skip)
       by_cases c6 : ((rd_T85 l0 x3_1).f0) < (-1)
       ·rw [if_pos c6] at H
        have c6b0 : decide (((rd_T85 l0 x3_1).f0) < (-1)) = true := decide_eq_true c6; clear c6; have H' := Aside0.mk H; clear H; have p245 : 0 ≤ (x3_1 : Int) := of_decide_eq_true zq1; have q245 : x3_1 < (l0.length : Int) := of_decide_eq_true zq1; obtain ⟨ad245, e245, hx245_0, hx245_1⟩ := at_T85 HR0.out x3_1 p245 q245; cases e245; replace p245 := eq_true p245; replace q245 := eq_true q245; go_wp2
        repeat (go_quiet (fail); try go_wp2)
        go_meet
        case rel => exact ⟨_, (true), zq3, H', ⟨by have := HK1.out; first | omega | exact Nat.le_refl _⟩, zq5⟩
       ·rw [if_neg c6] at H
        have c6b0 : decide (((rd_T85 l0 x3_1).f0) < (-1)) = false := decide_eq_false c6; clear c6
        by_cases c7 : ((rd_T85 l0 x3_1).f0) ≥ 1125899906842624
        ·rw [if_pos c7] at H
         have c7b0 : decide (1125899906842624 ≤ ((rd_T85 l0 x3_1).f0)) = true := decide_eq_true c7; clear c7; have H' := Aside0.mk H; clear H; have p245 : 0 ≤ (x3_1 : Int) := of_decide_eq_true zq1; have q245 : x3_1 < (l0.length : Int) := of_decide_eq_true zq1; obtain ⟨ad245, e245, hx245_0, hx245_1⟩ := at_T85 HR0.out x3_1 p245 q245; cases e245; replace p245 := eq_true p245; replace q245 := eq_true q245; have p246 : 0 ≤ (x3_1 : Int) := of_decide_eq_true zq1; have q246 : x3_1 < (l0.length : Int) := of_decide_eq_true zq1; obtain ⟨ad246, e246, hx246_0, hx246_1⟩ := at_T85 HR0.out x3_1 p246 q246; obtain rfl : ad245 = ad246 := (by injection e246)
         replace p246 := eq_true p246; replace q246 := eq_true q246; go_wp2
         repeat (go_quiet (fail); try go_wp2)
         go_meet
         case rel => exact ⟨_, (true), zq3, H', ⟨by have := HK1.out; first | omega | exact Nat.le_refl _⟩, zq5⟩
        ·rw [if_neg c7] at H
         have c7b0 : decide (1125899906842624 ≤ ((rd_T85 l0 x3_1).f0)) = false := decide_eq_false c7; clear c7
         by_cases c8 : ((rd_T85 l0 x3_1).f1) = 0
         ·rw [if_pos c8] at H
          have c8b0 : (((rd_T85 l0 x3_1).f1) == 0) = true := beq_iff_eq.mpr c8; have c8b1 : (((rd_T85 l0 x3_1).f1) != 0) = false := bne_eq_false_iff_eq.mpr c8; clear c8; have H' := Aside0.mk H; clear H; have p245 : 0 ≤ (x3_1 : Int) := of_decide_eq_true zq1; have q245 : x3_1 < (l0.length : Int) := of_decide_eq_true zq1; obtain ⟨ad245, e245, hx245_0, hx245_1⟩ := at_T85 HR0.out x3_1 p245 q245; cases e245; replace p245 := eq_true p245; replace q245 := eq_true q245; have p246 : 0 ≤ (x3_1 : Int) := of_decide_eq_true zq1; have q246 : x3_1 < (l0.length : Int) := of_decide_eq_true zq1; obtain ⟨ad246, e246, hx246_0, hx246_1⟩ := at_T85 HR0.out x3_1 p246 q246; obtain rfl : ad245 = ad246 := (by injection e246)
          replace p246 := eq_true p246; replace q246 := eq_true q246; have p247 : 0 ≤ (x3_1 : Int) := of_decide_eq_true zq1; have q247 : x3_1 < (l0.length : Int) := of_decide_eq_true zq1; obtain ⟨ad247, e247, hx247_0, hx247_1⟩ := at_T85 HR0.out x3_1 p247 q247; obtain rfl : ad245 = ad247 := (by injection e247)
          replace p247 := eq_true p247; replace q247 := eq_true q247; go_wp2
          repeat (go_quiet (fail); try go_wp2)
          go_meet
          case rel => exact ⟨_, (true), zq3, H', ⟨by have := HK1.out; first | omega | exact Nat.le_refl _⟩, zq5⟩
         ·rw [if_neg c8] at H
          have c8b0 : (((rd_T85 l0 x3_1).f1) == 0) = false := beq_eq_false_iff_ne.mpr c8; have c8b1 : (((rd_T85 l0 x3_1).f1) != 0) = true := bne_iff_ne.mpr c8
          by_cases c9 : ((rd_T85 l0 x3_1).f1) > 1048576
          ·rw [if_pos c9] at H
           have c9b0 : decide (1048576 < ((rd_T85 l0 x3_1).f1)) = true := decide_eq_true c9; clear c9; have H' := Aside0.mk H; clear H; have p245 : 0 ≤ (x3_1 : Int) := of_decide_eq_true zq1; have q245 : x3_1 < (l0.length : Int) := of_decide_eq_true zq1; obtain ⟨ad245, e245, hx245_0, hx245_1⟩ := at_T85 HR0.out x3_1 p245 q245; cases e245; replace p245 := eq_true p245; replace q245 := eq_true q245; have p246 : 0 ≤ (x3_1 : Int) := of_decide_eq_true zq1; have q246 : x3_1 < (l0.length : Int) := of_decide_eq_true zq1; obtain ⟨ad246, e246, hx246_0, hx246_1⟩ := at_T85 HR0.out x3_1 p246 q246; obtain rfl : ad245 = ad246 := (by injection e246)
           replace p246 := eq_true p246; replace q246 := eq_true q246; have p247 : 0 ≤ (x3_1 : Int) := of_decide_eq_true zq1; have q247 : x3_1 < (l0.length : Int) := of_decide_eq_true zq1; obtain ⟨ad247, e247, hx247_0, hx247_1⟩ := at_T85 HR0.out x3_1 p247 q247; obtain rfl : ad245 = ad247 := (by injection e247)
           replace p247 := eq_true p247; replace q247 := eq_true q247; have p248 : 0 ≤ (x3_1 : Int) := of_decide_eq_true zq1; have q248 : x3_1 < (l0.length : Int) := of_decide_eq_true zq1; obtain ⟨ad248, e248, hx248_0, hx248_1⟩ := at_T85 HR0.out x3_1 p248 q248; obtain rfl : ad245 = ad248 := (by injection e248)
           replace p248 := eq_true p248; replace q248 := eq_true q248; go_wp2
           repeat (go_quiet (fail); try go_wp2)
           go_meet
           case rel => exact ⟨_, (true), zq3, H', ⟨by have := HK1.out; first | omega | exact Nat.le_refl _⟩, zq5⟩
          ·rw [if_neg c9] at H
           have c9b0 : decide (1048576 < ((rd_T85 l0 x3_1).f1)) = false := decide_eq_false c9; clear c9; have H' := Aside0.mk H; clear H; have p245 : 0 ≤ (x3_1 : Int) := of_decide_eq_true zq1; have q245 : x3_1 < (l0.length : Int) := of_decide_eq_true zq1; obtain ⟨ad245, e245, hx245_0, hx245_1⟩ := at_T85 HR0.out x3_1 p245 q245; cases e245; replace p245 := eq_true p245; replace q245 := eq_true q245; have p246 : 0 ≤ (x3_1 : Int) := of_decide_eq_true zq1; have q246 : x3_1 < (l0.length : Int) := of_decide_eq_true zq1; obtain ⟨ad246, e246, hx246_0, hx246_1⟩ := at_T85 HR0.out x3_1 p246 q246; obtain rfl : ad245 = ad246 := (by injection e246)
           replace p246 := eq_true p246; replace q246 := eq_true q246; have p247 : 0 ≤ (x3_1 : Int) := of_decide_eq_true zq1; have q247 : x3_1 < (l0.length : Int) := of_decide_eq_true zq1; obtain ⟨ad247, e247, hx247_0, hx247_1⟩ := at_T85 HR0.out x3_1 p247 q247; obtain rfl : ad245 = ad247 := (by injection e247)
           replace p247 := eq_true p247; replace q247 := eq_true q247; have p248 : 0 ≤ (x3_1 : Int) := of_decide_eq_true zq1; have q248 : x3_1 < (l0.length : Int) := of_decide_eq_true zq1; obtain ⟨ad248, e248, hx248_0, hx248_1⟩ := at_T85 HR0.out x3_1 p248 q248; obtain rfl : ad245 = ad248 := (by injection e248)
           replace p248 := eq_true p248; replace q248 := eq_true q248; have p249 : 0 ≤ (x3_1 : Int) := of_decide_eq_true zq1; have q249 : x3_1 < (l0.length : Int) := of_decide_eq_true zq1; obtain ⟨ad249, e249, hx249_0, hx249_1⟩ := at_T85 HR0.out x3_1 p249 q249; obtain rfl : ad245 = ad249 := (by injection e249)
           replace p249 := eq_true p249; replace q249 := eq_true q249; go_wp2
           repeat (go_quiet (fail); try go_wp2)
           go_meet
           case rel => exact ⟨_, (decide (((rd_T85 l0 x3_1).f1) < (-1048576))), zq3, H', ⟨by have := HK1.out; first | omega | exact Nat.le_refl _⟩, zq5⟩
      ·rw [if_neg c5] at H
       exact absurd H zq30
     case rest =>
      clear HC4
      try clear c2
      try clear c2b0
      try clear c2b1
      try clear p2
      try clear q2
      try clear hx2
      try clear c3
      try clear c3b0
      try clear c5
      try clear c5b0
      try clear c6
      try clear c6b0
      try clear c7
      try clear c7b0
      try clear c8
      try clear c8b0
      try clear c8b1
      try clear c9
      try clear c9b0
      try clear hx245_0
      try clear hx245_1
      try clear hx246_0
      try clear hx246_1
      try clear hx247_0
      try clear hx247_1
      try clear hx248_0
      try clear hx248_1
      try clear hx249_0
      try clear hx249_1
      try clear p2
      try clear p245
      try clear p246
      try clear p247
      try clear p248
      try clear p249
      try clear q245
      try clear q246
      try clear q247
      try clear q248
      try clear q249
      obtain ⟨kq, x50_3, rfl, HA, HJ3, ⟨mc3, rfl⟩⟩ := hcut; cases kq with
      | zero => exact absurd HA.out (by simp [r09_May.j1])
      | succ kj3 =>
       have H := HA.out; clear HA; simp only [r09_May.j1] at H
       by_cases c10 : x50_3 = true
       ·subst c10
        have H1 : (some false) = some r := by rw [if_pos rfl] at H; exact H
        clear H; have H := H1; clear H1; obtain rfl := Option.some.inj H; go_wp2
        repeat (go_quiet (fail); try go_wp2)
        go_ret; exact ⟨zq3, zq5⟩
       ·replace c10 := Bool.eq_false_iff.mpr c10
        subst c10; have H1 : (if x3_1 > 0 then (if 0 ≤ x3_1 then (if x3_1 < (l0.length : Int) then (if 0 ≤ (wrap64 (x3_1 - 1)) then (if (wrap64 (x3_1 - 1)) < (l0.length : Int) then (if ((rd_T85 l0 x3_1).f0) ≤ ((rd_T85 l0 (wrap64 (x3_1 - 1))).f0) then (some false) else (r09_May.l0 kj3 l0 (wrap64 (x3_1 + 1)))) else (none)) else (none)) else (none)) else (none)) else (r09_May.l0 kj3 l0 (wrap64 (x3_1 + 1)))) = some r := by rw [if_neg (show ¬ (false = true) by decide)] at H; exact H
        clear H; have H := H1; clear H1
        by_cases c11 : x3_1 > 0
        ·rw [if_pos c11] at H
         have c11b0 : decide (0 < x3_1) = true := decide_eq_true c11; clear c11
         by_cases c12 : 0 ≤ x3_1
         ·rw [if_pos c12] at H
          have c12b0 : decide (0 ≤ x3_1) = true := decide_eq_true c12; clear c12
          by_cases c13 : x3_1 < (l0.length : Int)
          ·rw [if_pos c13] at H
           have c13b0 : decide (x3_1 < (l0.length : Int)) = true := decide_eq_true c13; clear c13; obtain ⟨ji14, hji14⟩ : ∃ j_ : Int, (wrap64 (x3_1 - 1)) = j_ := ⟨_, rfl⟩
           replace H : (if 0 ≤ (ji14) then (if (ji14) < (l0.length : Int) then (if ((rd_T85 l0 x3_1).f0) ≤ ((rd_T85 l0 (ji14)).f0) then (some false) else (r09_May.l0 kj3 l0 (wrap64 (x3_1 + 1)))) else (none)) else (none)) = some r := by first | (rw [hji14] at H; exact H) | (simp only [hji14] at H ⊢; exact H)
           have hji14w : (IntKind.i64.wrap (x3_1 - 1)) = ji14 := (i64_w _).trans hji14
           by_cases c15 : 0 ≤ (ji14)
           ·rw [if_pos c15] at H
            have c15b0 : decide (0 ≤ (ji14)) = true := decide_eq_true c15; clear c15
            by_cases c16 : (ji14) < (l0.length : Int)
            ·rw [if_pos c16] at H
             have c16b0 : decide ((ji14) < (l0.length : Int)) = true := decide_eq_true c16; clear c16
             by_cases c17 : ((rd_T85 l0 x3_1).f0) ≤ ((rd_T85 l0 (ji14)).f0)
             ·rw [if_pos c17] at H
              have c17b0 : decide (((rd_T85 l0 x3_1).f0) ≤ ((rd_T85 l0 (ji14)).f0)) = true := decide_eq_true c17; clear c17; obtain rfl := Option.some.inj H; have p250 : 0 ≤ (x3_1 : Int) := of_decide_eq_true zq1; have q250 : x3_1 < (l0.length : Int) := of_decide_eq_true zq1; obtain ⟨ad250, e250, hx250_0, hx250_1⟩ := at_T85 HR0.out x3_1 p250 q250; cases e250; replace p250 := eq_true p250; replace q250 := eq_true q250; have p251 : 0 ≤ ((ji14) : Int) := of_decide_eq_true zq1; have q251 : (ji14) < (l0.length : Int) := of_decide_eq_true zq1; obtain ⟨ad251, e251, hx251_0, hx251_1⟩ := at_T85 HR0.out (ji14) p251 q251; obtain rfl : ad250 = ad251 := (by injection e251)
              replace p251 := eq_true p251; replace q251 := eq_true q251; go_wp2
              repeat (go_quiet (fail); try go_wp2)
              go_ret; exact ⟨(by first | rfl | (simp; done) | (simp only [← hji14] <;> (first | rfl | simp)) | (simp [*]; done)), zq5⟩
             ·rw [if_neg c17] at H
              have c17b0 : decide (((rd_T85 l0 x3_1).f0) ≤ ((rd_T85 l0 (ji14)).f0)) = false := decide_eq_false c17; clear c17; have H' := Aside0.mk H; clear H; have p250 : 0 ≤ (x3_1 : Int) := of_decide_eq_true zq1; have q250 : x3_1 < (l0.length : Int) := of_decide_eq_true zq1; obtain ⟨ad250, e250, hx250_0, hx250_1⟩ := at_T85 HR0.out x3_1 p250 q250; cases e250; replace p250 := eq_true p250; replace q250 := eq_true q250; have p251 : 0 ≤ ((ji14) : Int) := of_decide_eq_true zq1; have q251 : (ji14) < (l0.length : Int) := of_decide_eq_true zq1; obtain ⟨ad251, e251, hx251_0, hx251_1⟩ := at_T85 HR0.out (ji14) p251 q251; obtain rfl : ad250 = ad251 := (by injection e251)
              replace p251 := eq_true p251; replace q251 := eq_true q251; go_wp2
              repeat (go_quiet (fail); try go_wp2)
              go_roundg kj3
              case measure => have := HK1.out; have := HJ3.out; omega
              case rel => exact ⟨(wrap64 (x3_1 + 1)), zq3, H', ⟨by have := HK1.out; have := HJ3.out; omega⟩, zq5⟩
            ·rw [if_neg c16] at H
             exact absurd H zq30
           ·rw [if_neg c15] at H
            exact absurd H zq30
          ·rw [if_neg c13] at H
           exact absurd H zq30
         ·rw [if_neg c12] at H
          exact absurd H zq30
        ·rw [if_neg c11] at H
         have c11b0 : decide (0 < x3_1) = false := decide_eq_false c11; clear c11; have H' := Aside0.mk H; clear H; go_wp2
         repeat (go_quiet (fail); try go_wp2)
         go_roundg kj3
         case measure => have := HK1.out; have := HJ3.out; omega
         case rel => exact ⟨(wrap64 (x3_1 + 1)), zq3, H', ⟨by have := HK1.out; have := HJ3.out; omega⟩, zq5⟩
    ·rw [if_neg c3] at H
     have c3b0 : decide (x3_1 < (l0.length : Int)) = false := decide_eq_false c3; clear c3; obtain rfl := Option.some.inj H; go_wp2
     repeat (go_quiet (fail); try go_wp2)
     go_ret; exact ⟨zq3, zq5⟩
end Go.Proofs.YtmkgecapkeojaaaGreat.PDa
end
