/- Texts of this claim, put together by a program: RefPut, Pl9, Pl9b, Pl10, HRows, RefNorm, PlR, HMay, HOne. -/
import Derived.Test.YtmkgecapkeojaaaGreatP11
set_option linter.unusedVariables false
set_option linter.unusedSimpArgs false
set_option maxHeartbeats 8000000
set_option maxRecDepth 100000
section
namespace Go.Proofs.YtmkgecapkeojaaaGreat.Eg
open Go.Proofs.YtmkgecapkeojaaaGreat Go.Proofs.YtmkgecapkeojaaaGreat.PDa
open Go.RowKit Go.Proofs.YtmkgecapkeojaaaGreatW.PrintWords Go.Proofs.YtmkgecapkeojaaaGreatW.PrintLast Go.Proofs.YtmkgecapkeojaaaGreatW.PrintMore
open Go.Proofs.YtmkgecapkeojaaaGreat.Run Go.Proofs.YtmkgecapkeojaaaGreat.Rw
def rput.T4 : Bool × List (List Nat × List Nat) := (true, [([], []), ([], []), ([], []), ([1, 2], [1, 2]), ([], []), ([], []), ([4, 5], [4, 5]), ([6], [6]), ([7], [7]), ([], []), ([], []), ([9, 10], [9, 10]), ([11], [11]), ([12], [12]), ([3, 8, 13], [3, 8, 13]), ([14], [14]), ([0, 15, 3], [0, 15]), ([16, 16, 0, 1, 2, 3, 4, 5, 6, 7, 8, 9, 10, 11, 12, 13, 14, 15, 16], [0, 16])])
def rput.B4 : List Nat := [0, 0, 0, 6, 0, 0, 48, 112, 240, 0, 0, 1536, 3584, 7680, 16382, 32766, 65535, 131071]
theorem rput.tab4 : rtab .any (opsOf Tryz.f68 4) = rput.T4 := by kernel_rfl
theorem rput.bits4 : waitsOk rput.T4.2 rput.B4 = true := by kernel_rfl
theorem refput_calls (base : Nat) (ok : Nat → Prop) (v : Value) (l : List S41) (A1 : Option Addr) (c1 : Nat) (r : List S65) (A2 : Option Addr) (c2 : Nat) (f : List S85) (w : World)
  (hR : Kd.R kE tE w base ok v l) (hbase : base ≤ w.heap.size) (hfresh : ∀ k, w.heap.size ≤ k → ok k) (okr : Nat → Prop) (hr : ∀ w2 : World, (∀ k, okr k → w2.heap[k]? = w.heap[k]?) → Kd.C kV w2 A1 r.length r) (hrd : ∀ k, okr k → k < w.heap.size ∧ some k ≠ v.ownBlock) (hf : Kd.R kJp tJ w 0 (fun _ => True) (.slice A2 f.length c2) f)
  (hrl : r.length ≤ 4398046511104) (hl : l.length + f.length ≤ 1099511627776) :
  Calls Tryz.prog 68 #[v, .slice A1 r.length c1, .slice A2 f.length c2] w fun e w' => ∃ v1, e = .returned v1 ∧ Kd.R kE tE w' base ok v1 (putP l r f) ∧ w.grownBy w' v.ownBlock ∧ (v1.ownBlock = v.ownBlock ∨ ∃ b, v1.ownBlock = some b ∧ w.heap.size ≤ b) := by
 have hu := Tryz.underlying41; have hu39 : Tryz.prog.underlying 39 = some (.slice 65) := by kernel_rfl
 have hu22 : Tryz.prog.underlying 22 = some (.slice 41) := by kernel_rfl
 have HR := Lib.hid hR; have HRr := Lib.hid hr; have HRD := Lib.hid hrd; have HRf := Lib.hid hf; have HFR := Lib.hid hfresh; have HB0 := Lib.hid hbase; have HL := Lib.hid hl; have HRL := Lib.hid hrl; clear hR hr hrd hf hfresh hbase hl hrl; go_enter Tryz.func68, Tryz.ntmps68; go_wp2
 go_loopw [0, 7] (fun v0 v11 wr => ∃ (i : Nat), i ≤ f.length ∧ v11 = .int .i64 (i : Int) ∧ Aside0 (Kd.R kE tE wr base ok v0 (putP l r (f.take i))) ∧ Aside0 (w.grownBy wr v.ownBlock) ∧ Aside0 (v0.ownBlock = v.ownBlock ∨ ∃ b, v0.ownBlock = some b ∧ w.heap.size ≤ b) ∧ Aside0 (Kd.R kJp tJ wr 0 (fun _ => True) (.slice A2 f.length c2) f)) (fun v0 v11 wr => f.length - (intOf v11).toNat)
 case atStart => exact ⟨0, Nat.zero_le _, rfl, ⟨by simpa [putP] using HR.out⟩, ⟨World.grownBy.refl w _⟩, ⟨.inl rfl⟩, ⟨HRf.out⟩⟩
 case round =>
  obtain ⟨i, hi, rfl, HO, HG, HAT, HRf1⟩ := hrel
  by_cases c : i < f.length
  ·obtain ⟨Y, hYj⟩ : ∃ Y, f[i] = Y := ⟨_, rfl⟩
   obtain ⟨ad, e1, x0, x1⟩ := at_T85 (Kd.R_reads' HRf1.out).2.2 (i : Int) zq4 zq4; have hrd : rd_T85 f (i : Int) = Y := by
    unfold rd_T85; rw [Int.toNat_natCast, List.getD_eq_getElem?_getD, List.getElem?_eq_getElem c]; exact hYj
   rw [Int.toNat_natCast, hrd] at x0 x1; clear hrd; cases e1; have HYj := Lib.hid hYj; clear hYj; have hll : f.length ≤ 1099511627776 := by have := HL.out; omega
   have pI : (0 ≤ (i : Int)) = True := eq_true zq4; have qI : ((i : Int) < (f.length : Int)) = True := eq_true zq4; go_wp2; obtain ⟨wA, hwA⟩ : ∃ x, x = wr := ⟨_, rfl⟩
   have b0 : wA.drew.cell? (ad.add (i * 2)) = some (.int .i64 Y.f0) := by rw [hwA]; exact x0
   have b1 : wA.drew.cell? ⟨(ad.add (i * 2)).block, (ad.add (i * 2)).off + 1, none⟩ = some (.int .i64 Y.f1) := by rw [hwA]; exact x1
   have HBA := Lib.hid (show Below wr.heap.size wr wA.drew by rw [hwA]; exact below_drew1 (Below.refl _ wr)); have HSA := Lib.hid (show wA.drew.heap.size = wr.heap.size by rw [hwA]; rfl); rw [← hwA]; clear hwA x0 x1; have HOA := Lib.hid (Kd.R_below HO.out HBA.out); have HGA := Lib.hid (grown_trans HG.out HAT.out (grown_below HBA.out)); have HRrA := Lib.hid (HRr.out wA.drew (fun k hk => HGA.out.block k (HRD.out k hk).1 (HRD.out k hk).2)); have HRfA := Lib.hid (Kd.R_below HRf1.out HBA.out); have HOW := Lib.hid (fun k (h : u0.ownBlock = some k) => own_ltR HO.out h); clear HO HG HRf1; refine start_ (n := 18) (S := fun w' => w'.cell? (ad.add (i * 2)) = some (.int .i64 Y.f0) ∧ w'.cell? ⟨(ad.add (i * 2)).block, (ad.add (i * 2)).off + 1, none⟩ = some (.int .i64 Y.f1)) (ds := [15, 16]) #[false, false, false, false, false, false, false, false, false, false, false, false, false, false, false, false, false, false] zq17 rfl rfl ⟨b0, b1⟩ (fun hHeld => ?_); refine with_tabW rput.tab4 rput.bits4 (fun HT_ HW_ => ?_); refine pZ 0 14 ?_; refine pZ 2 16 ?_; refine pZ 4 18 ?_; refine pZ 5 19 ?_; refine pZ 6 20 ?_; refine pZ 7 21 ?_; refine pZ 9 23 ?_; refine pZ 10 24 ?_; refine pZ 11 25 ?_; refine pZ 12 26 ?_; refine tZ2 8 22 ?_; refine tZ2 13 27 ?_; refine oZ 1 15 (fun K hK => ?_); refine Kd.R_lit_step kV _ tV ?hg (N := 15) ?hd (xs := ([] : List Vl)) (inner := []) (ok := fun _ => True) (okp := fun _ => True) ?hr ?hp (fun _ hk => hk) trivial (Below.refl _ _) (Nat.le_refl _) zq30 ?_
   case hd => rfl
   case hg => rfl
   case hr => first | (go_simp; done) | (go_simp; rfl)
   case hp => exact Reps.none _ _
   intro vl w3 hRl hbl hgl hnl; obtain ⟨Al, cl, rfl⟩ := Kd.R_slice hRl; have HRL3 := Lib.hid hRl; have HBL3 := Lib.hid hbl; clear hRl hbl hgl hnl; refine hK.out _ _ ⟨pw_cell_below HBL3.out b0, pw_cell_below HBL3.out b1⟩ (fun hHeld => ?_); clear hK K; refine nZ 15 ?_; refine oZ 3 17 (fun K hK => ?_); refine Kd.R_append_rows_step kV (w0 := wA.drew) wA.drew.heap.size (by rfl) (.tmp 15) (.tmp 16) 39 65 (.agg #[(.int .i64 0), (.int .i64 0), (.string ⟨#[]⟩)]) 32 rfl hu39 info65 rfl zq34 zq4 (.slice Al ([] : List Vl).length cl) [] r _ _ _ (fun _ => True) (fun _ => False) rfl rfl HRL3.out (Kd.C_below HRrA.out HBL3.out) (fun _ _ h => h) (fun _ h => h.elim) (fun _ _ => trivial) HBL3.out HBL3.out.size ?aL ?_
   case aL => have := HRL.out; simp only [List.length_nil, Nat.zero_add]; omega
   intro vc w4 hRc hbc hgc hatc; obtain ⟨Ac, cc, rfl⟩ := Kd.R_slice hRc; have HRC := Lib.hid (show Kd.R kV tV w4 wA.drew.heap.size (fun _ => True) (.slice Ac r.length cc) r from hRc); have HBC := Lib.hid hbc; clear hRc hbc hgc hatc; refine hK.out _ _ ⟨pw_cell_below HBC.out b0, pw_cell_below HBC.out b1⟩ (fun hHeld => ?_); clear hK K; refine nZ 17 ?_; refine pZ 14 28 ?_; refine last_ (i := 15) (N := some 29) #[true, true, true, true, true, true, true, true, true, true, true, true, true, true, true, true, false, false] rfl rfl (one_of HT_.out zq17) zq34 (fun K hK => ?_); refine value_ (w1 := ?_) (v := ?_) (by rfl) rfl ?_ ?_; rotate_left 2
   ·go_simp
    constructor
    ·rfl
    ·rfl
   refine hK.out _ _ ?_; clear hK K; refine nZ 29 ?_; refine last_ (i := 16) (N := some 30) #[true, true, true, true, true, true, true, true, true, true, true, true, true, true, true, true, true, false] rfl rfl (one_of HT_.out zq17) zq34 (fun K hK => ?_); refine Kd.R_append_step kE (w0 := w4) base (by rfl) (.tmp 14) (.tmp 29) 22 41 (.agg #[.slice none 0 0, (.int .i64 0), (.int .i64 0)]) 40 rfl hu22 info41 rfl zq34 zq4 u0 (putP l r (f.take i)) ⟨r, Y.f0, Y.f1⟩ [.slice Ac r.length cc, .int .i64 Y.f0, .int .i64 Y.f1] ok (fun k => wA.drew.heap.size ≤ k) rfl rfl ?aP ?aK ?aF ?aO (Below.refl _ _) ?aS ?aL ?_
   case aP => exact k41_mkM _ _ _ ⟨r, Y.f0, Y.f1⟩ (Kd.R_mono (Kd.R_lower (Kd.R_bound HRC.out) (by have := HB0.out; have := HGA.out.size; omega)) (fun _ h => h.2.1))
   case aK => exact fun k hk => ⟨HFR.out k (by have := HGA.out.size; omega), fun e' => by have := (HOW.out k e'.symm).2; have := HSA.out; omega⟩
   case aF => exact fun k hk => HFR.out k (by have := HGA.out.size; have := HBC.out.size; omega)
   case aO => exact Kd.R_below HOA.out HBC.out
   case aS => have := HB0.out; have := HGA.out.size; have := HBC.out.size; omega
   case aL => have := HL.out; rw [putP, List.length_append, List.length_map, List.length_take]; omega
   intro v1 w1 ho hb hg hat; have HO1 := Lib.hid ho; have HG1 := Lib.hid hg; have HAT1 := Lib.hid hat; clear ho hb hg hat; refine hK.out _ _ ?_; clear hK K; refine nZ 30 ?_; refine pZ 17 0 ?_; refine done_ (done_of HT_.out zq17) ?_; go_wp2; go_roundw
   case rel =>
    refine ⟨i + 1, by omega, by go_num, ⟨?_⟩, ⟨?_⟩, ⟨?_⟩, ⟨?_⟩⟩
    ·have := HO1.out
     rw [show putP l r (f.take (i + 1)) = putP l r (f.take i) ++ [⟨r, Y.f0, Y.f1⟩] by unfold putP; rw [List.take_add_one, List.getElem?_eq_getElem c, HYj.out]; simp]; exact this
    ·exact grown_trans HGA.out HAT.out (grown_step HBC.out HG1.out)
    ·exact own_at_trans HAT.out (HGA.out.size) HBC.out.size HAT1.out
    ·exact R_grown (Kd.R_below HRfA.out HBC.out) (Kd.R_below HOA.out HBC.out) zq34 HG1.out
   case measure => simp [intOf]; omega
  ·obtain rfl : i = f.length := by omega
   go_wp2; go_ret; refine ⟨_, rfl, ?_, HG.out, HAT.out⟩; have := HO.out; rw [List.take_length] at this; exact this
end Go.Proofs.YtmkgecapkeojaaaGreat.Eg
end
section
namespace Go.Proofs.YtmkgecapkeojaaaGreat.Eg
open Go.Proofs.YtmkgecapkeojaaaGreat Go.Proofs.YtmkgecapkeojaaaGreat.PDa
open Go.RowKit Go.Proofs.YtmkgecapkeojaaaGreatW.PrintWords Go.Proofs.YtmkgecapkeojaaaGreatW.PrintLast Go.Proofs.YtmkgecapkeojaaaGreatW.PrintMore
open Go.Proofs.YtmkgecapkeojaaaGreat.Stp Go.Proofs.YtmkgecapkeojaaaGreat.Rw Go.Proofs.YtmkgecapkeojaaaGreat.Canon
open Go.Proofs.YtmkgecapkeojaaaGreat.EvP (U)
theorem rdI (l : List Int) (i : Nat) (h : i < l.length) : rd l (i : Int) = l[i] := by
 unfold rd; rw [Int.toNat_natCast, List.getD_eq_getElem?_getD, List.getElem?_eq_getElem h]
 rfl
theorem rdJ (l : List Jp) (i : Nat) (h : i < l.length) : rd_T85 l (i : Int) = l[i] := by
 unfold rd_T85; rw [Int.toNat_natCast, List.getD_eq_getElem?_getD, List.getElem?_eq_getElem h]
 rfl
def withI (t : Int) : List Int → List Int
 | [] => [t]
 | x :: xs => if x = t then x :: xs else if t < x then t :: x :: xs else x :: withI t xs
theorem withI_len (t : Int) : ∀ l : List Int, (withI t l).length ≤ l.length + 1
 | [] => by simp [withI]
 | x :: xs => by
  unfold withI; have := withI_len t xs
  split
  ·simp
  ·split <;> simp <;> omega
theorem with_put (l : List Int) (t : Int) (hl : l.length ≤ 1000000) : ∀ (m i : Nat) (out : List Int), l.length - i = m → i ≤ l.length → (∀ x ∈ l.drop i, t < x) → out.length ≤ i + 1 → U (fun k => r09_With.l0 k l t out true (i : Int)) (out ++ l.drop i)
 | m, i, out, hm, hi, hx, ho => by
  refine EvP.U.succ ?_; simp only [r09_With.l0]
  by_cases c : i < l.length
  ·have hd : l.drop i = l[i] :: l.drop (i + 1) := List.drop_eq_getElem_cons c
   have h1 : t < l[i] := hx _ (by rw [hd]; exact List.mem_cons_self); refine EvP.U.pos zq4 (EvP.U.pos zq4 ?_); rw [rdI l i c, wrapN i zq4]; refine EvP.U.neg zq4 (EvP.U.pos zq4 (EvP.U.pos trivial (EvP.U.pos zq4 ?_))); have e : out ++ l.drop i = (out ++ [l[i]]) ++ l.drop (i + 1) := by rw [hd]; simp
   rw [e]
   match m, hm with
   | 0, hm => omega
   | m + 1, hm => exact with_put l t hl m (i + 1) _ zq4 zq4 (fun x h => hx x (by rw [hd]; exact List.mem_cons_of_mem _ h)) zq33
  ·refine EvP.U.neg zq4 (EvP.U.pos trivial ?_)
   rw [List.drop_eq_nil_of_le zq4]; exact EvP.U.congr_r (EvP.U.some _) zq30
theorem with_not (l : List Int) (t : Int) (hl : l.length ≤ 1000000) (hs : l.Pairwise (· < ·)) : ∀ (m i : Nat), l.length - i = m → i ≤ l.length → U (fun k => r09_With.l0 k l t (l.take i) false (i : Int)) (l.take i ++ withI t (l.drop i))
 | m, i, hm, hi => by
  refine EvP.U.succ ?_; simp only [r09_With.l0]; have hti : (l.take i).length = i := by rw [List.length_take]; omega
  by_cases c : i < l.length
  ·have hd : l.drop i = l[i] :: l.drop (i + 1) := List.drop_eq_getElem_cons c
   refine EvP.U.pos zq4 (EvP.U.pos zq4 ?_); rw [rdI l i c, wrapN i zq4]
   by_cases c1 : l[i] = t
   ·refine EvP.U.pos c1 (EvP.U.congr_r (EvP.U.some _) ?_)
    rw [hd, withI, if_pos c1, ← hd, List.take_append_drop]
   ·refine EvP.U.neg c1 ?_
    by_cases c2 : l[i] > t
    ·refine EvP.U.pos c2 (EvP.U.neg zq34 (EvP.U.pos zq4 ?_))
     refine EvP.U.bind (EvP.U.some _) (EvP.U.pos zq33 ?_); have e : l.take i ++ withI t (l.drop i) = (l.take i ++ [t] ++ [l[i]]) ++ l.drop (i + 1) := by
      rw [hd, withI, if_neg c1, if_pos c2]; simp
     rw [e]; have hs2 := List.pairwise_cons.1 (by have := List.Pairwise.drop (i := i) hs; rw [hd] at this; exact this); refine with_put l t hl _ (i + 1) _ rfl zq4 (fun x h => ?_) zq33; have := hs2.1 x h; omega
    ·refine EvP.U.neg c2 (EvP.U.pos zq4 ?_)
     have e : l.take i ++ withI t (l.drop i) = l.take (i + 1) ++ withI t (l.drop (i + 1)) := by
      rw [hd, withI, if_neg c1, if_neg zq4, show l.take (i + 1) = l.take i ++ [l[i]] by rw [List.take_add_one, List.getElem?_eq_getElem c]; rfl, List.append_assoc]; rfl
     have e2 : l.take i ++ [l[i]] = l.take (i + 1) := by rw [List.take_add_one, List.getElem?_eq_getElem c]; rfl
     rw [e, e2]
     match m, hm with
     | 0, hm => omega
     | m + 1, hm => exact with_not l t hl hs m (i + 1) zq4 zq4
  ·refine EvP.U.neg zq4 (EvP.U.neg zq34 (EvP.U.pos zq4 ?_))
   rw [List.drop_eq_nil_of_le zq4]; exact EvP.U.some _
theorem with09 (l : List Int) (t : Int) (hl : l.length ≤ 1000000) (hs : l.Pairwise (· < ·)) : U (fun k => r09_With.f k l t) (withI t l) := by
 have := with_not l t hl hs _ 0 rfl (Nat.zero_le _); unfold r09_With.f
 simpa using this
theorem withI_mem (t : Int) : ∀ (l : List Int) (z : Int), z ∈ withI t l ↔ z = t ∨ z ∈ l
 | [], z => by simp [withI]
 | x :: xs, z => by
  unfold withI
  split
  ·rename_i h; subst h; simp
  ·split
   ·simp
   ·simp only [List.mem_cons, withI_mem t xs z]
    constructor
    ·rintro (h | h | h)
     ·exact .inr (.inl h)
     ·exact .inl h
     ·exact .inr (.inr h)
    ·rintro (h | h | h)
     ·exact .inr (.inl h)
     ·exact .inl h
     ·exact .inr (.inr h)
theorem withI_inc (t : Int) : ∀ (l : List Int), l.Pairwise (· < ·) → (withI t l).Pairwise (· < ·)
 | [], _ => by simp [withI]
 | x :: xs, h => by
  have h2 := List.pairwise_cons.1 h; unfold withI
  split
  ·exact h
  ·rename_i c
   split
   ·rename_i c2
    refine List.pairwise_cons.2 ⟨fun y hy => ?_, h⟩
    rcases List.mem_cons.1 hy with rfl | hy
    ·exact c2
    ·have := h2.1 y hy; omega
   ·rename_i c2
    refine List.pairwise_cons.2 ⟨fun y hy => ?_, withI_inc t xs h2.2⟩
    rcases (withI_mem t xs y).1 hy with rfl | hy
    ·omega
    ·exact h2.1 y hy
def valI : List Jp → Int → Int
 | [], _ => 0
 | x :: xs, p => (if x.f0 ≤ p then x.f1 else 0) + valI xs p
theorem valI_append (p : Int) : ∀ a b : List Jp, valI (a ++ b) p = valI a p + valI b p
 | [], b => by simp [valI]
 | x :: xs, b => by simp [valI, valI_append p xs b]; omega
def Fair (l : List Jp) : Prop := ∀ x ∈ l, -1048576 ≤ x.f1 ∧ x.f1 ≤ 1048576
theorem valI_bound (p : Int) : ∀ l : List Jp, Fair l → -(1048576 * (l.length : Int)) ≤ valI l p ∧ valI l p ≤ 1048576 * (l.length : Int)
 | [], _ => by simp [valI]
 | x :: xs, h => by
  have h1 := h x List.mem_cons_self; have h2 := valI_bound p xs (fun y hy => h y (List.mem_cons_of_mem _ hy)); simp only [valI, List.length_cons]
  split <;> omega
theorem wrapS (z : Int) (h : -4611686018427387904 ≤ z) (h2 : z ≤ 4611686018427387904) : wrap64 z = z := by unfold wrap64; omega
theorem value_l0 (l : List Jp) (p : Int) (hf : Fair l) (hl : l.length ≤ 1000000) : ∀ (m i : Nat), l.length - i = m → i ≤ l.length → U (fun k => r09_Value.l0 k l p (valI (l.take i) p) (i : Int)) (valI l p)
 | m, i, hm, hi => by
  refine EvP.U.succ ?_; simp only [r09_Value.l0]
  by_cases c : i < l.length
  ·refine EvP.U.pos zq4 (EvP.U.pos zq4 ?_)
   rw [rdJ l i c, wrapN i zq4]; have ht : l.take (i + 1) = l.take i ++ [l[i]] := by rw [List.take_add_one, List.getElem?_eq_getElem c]; rfl
   have hb := valI_bound p (l.take i) (fun x hx => hf x (List.mem_of_mem_take hx)); have hti : (l.take i).length = i := by rw [List.length_take]; omega
   rw [hti] at hb; have hf1 := hf _ (List.getElem_mem c)
   by_cases c1 : l[i].f0 ≤ p
   ·refine EvP.U.pos c1 ?_
    rw [wrapS _ zq4 zq4, show valI (l.take i) p + l[i].f1 = valI (l.take (i + 1)) p by rw [ht, valI_append]; simp [valI, c1]]
    match m, hm with
    | 0, hm => omega
    | m + 1, hm => exact value_l0 l p hf hl m (i + 1) zq4 zq4
   ·refine EvP.U.neg c1 ?_
    rw [show valI (l.take i) p = valI (l.take (i + 1)) p by rw [ht, valI_append]; simp [valI, c1]]
    match m, hm with
    | 0, hm => omega
    | m + 1, hm => exact value_l0 l p hf hl m (i + 1) zq4 zq4
  ·obtain rfl : i = l.length := by omega
   refine EvP.U.neg zq4 ?_; rw [List.take_length]; exact EvP.U.some _
theorem value09 (l : List Jp) (p : Int) (hf : Fair l) (hl : l.length ≤ 1000000) : U (fun k => r09_Value.f k l p) (valI l p) := by
 have := value_l0 l p hf hl _ 0 rfl (Nat.zero_le _); unfold r09_Value.f
 simpa [valI] using this
theorem mayL_bad (last : Int) (x : Jp) (xs : List Jp) (h : x.f0 ≤ last ∨ x.f0 ≥ 1125899906842624 ∨ x.f1 = 0 ∨ x.f1 > 1048576 ∨ x.f1 < -1048576) : mayL last (x :: xs) = false := by
 cases e : mayL last (x :: xs) with
 | false => rfl
 | true =>
  simp only [mayL, fairB, Bool.and_eq_true, decide_eq_true_eq] at e; omega
theorem mayL_good (last : Int) (x : Jp) (xs : List Jp) (h : last < x.f0 ∧ x.f0 < 1125899906842624 ∧ x.f1 ≠ 0 ∧ x.f1 ≤ 1048576 ∧ -1048576 ≤ x.f1) : mayL last (x :: xs) = mayL x.f0 xs := by
 obtain ⟨h1, h2, h3, h4, h5⟩ := h; simp only [mayL, fairB, decide_eq_true h1, decide_eq_true h2, decide_eq_true h3, decide_eq_true h4, decide_eq_true h5, Bool.true_and]
theorem may_j1t (l : List Jp) (i : Int) : U (fun k => r09_May.j1 k l i true) false := by
 refine EvP.U.succ ?_; simp only [r09_May.j1]; exact EvP.U.pos trivial (EvP.U.some _)
theorem may09_l0 (l : List Jp) (hl : l.length ≤ 1024) : ∀ (m i : Nat) (last : Int), l.length - i = m → i ≤ l.length → (i = 0 ∧ last = -2 ∨ -1 ≤ last ∧ ∃ h : 0 < i, ∃ h2 : i - 1 < l.length, last = l[i - 1].f0) → U (fun k => r09_May.l0 k l (i : Int)) (mayL last (l.drop i))
 | m, i, last, hm, hi, hlast => by
  refine EvP.U.succ ?_; simp only [r09_May.l0]
  by_cases c : i < l.length
  ·refine EvP.U.pos zq4 (EvP.U.pos zq4 ?_)
   rw [rdJ l i c, List.drop_eq_getElem_cons c]; have hll : -2 ≤ last := by rcases hlast with h | h <;> omega
   by_cases c1 : l[i].f0 < -1
   ·rw [mayL_bad _ _ _ (.inl zq4)]; exact EvP.U.pos c1 (may_j1t l _)
   refine EvP.U.neg c1 ?_
   by_cases c2 : l[i].f0 ≥ 1125899906842624
   ·rw [mayL_bad _ _ _ (.inr (.inl c2))]; exact EvP.U.pos c2 (may_j1t l _)
   refine EvP.U.neg c2 ?_
   by_cases c3 : l[i].f1 = 0
   ·rw [mayL_bad _ _ _ (.inr (.inr (.inl c3)))]; exact EvP.U.pos c3 (may_j1t l _)
   refine EvP.U.neg c3 ?_
   by_cases c4 : l[i].f1 > 1048576
   ·rw [mayL_bad _ _ _ (.inr (.inr (.inr (.inl c4))))]; exact EvP.U.pos c4 (may_j1t l _)
   refine EvP.U.neg c4 ?_
   by_cases c5 : l[i].f1 < -1048576
   ·rw [mayL_bad _ _ _ (.inr (.inr (.inr (.inr c5)))), decide_eq_true c5]; exact may_j1t l _
   rw [decide_eq_false c5]; refine EvP.U.succ ?_; simp only [r09_May.j1]; refine EvP.U.neg zq34 ?_; have next : last < l[i].f0 → U (fun k => r09_May.l0 k l (wrap64 ((i : Int) + 1))) (mayL last (l[i] :: l.drop (i + 1))) := fun hlt => by
    clear hlast; rw [wrapN i zq4, mayL_good _ _ _ ⟨hlt, by omega, c3, by omega, by omega⟩]
    match m, hm with
    | 0, hm => omega
    | m + 1, hm => exact may09_l0 l hl m (i + 1) _ zq4 zq4 (.inr ⟨by omega, by omega, by simpa using c, rfl⟩)
   rcases hlast with ⟨h0, h1⟩ | ⟨h1, h2, h3, h4⟩
   ·exact EvP.U.neg zq4 (next zq4)
   ·have e : wrap64 ((i : Int) - 1) = ((i - 1 : Nat) : Int) := by unfold wrap64; omega
    refine EvP.U.pos zq4 (EvP.U.pos zq4 (EvP.U.pos zq4 ?_)); rw [e, rdJ l (i - 1) h3, rdJ l i c]; refine EvP.U.pos zq4 (EvP.U.pos zq4 ?_)
    by_cases c6 : l[i].f0 ≤ l[i - 1].f0
    ·rw [mayL_bad _ _ _ (.inl zq4)]; exact EvP.U.pos c6 (EvP.U.some _)
    ·exact EvP.U.neg c6 (next zq4)
  ·refine EvP.U.neg zq4 ?_
   rw [List.drop_eq_nil_of_le zq4]; exact EvP.U.some _
theorem may09 (l : List Jp) : U (fun k => r09_May.f k l) (mayJ l) := by
 unfold r09_May.f mayJ
 by_cases c : l.length ≤ 1024
 ·rw [decide_eq_true c, Bool.true_and]
  exact EvP.U.neg zq4 (may09_l0 l c _ 0 (-2) rfl (Nat.zero_le _) (.inl ⟨rfl, rfl⟩))
 ·rw [decide_eq_false c, Bool.false_and]
  exact EvP.U.pos zq4 (EvP.U.some _)
def toldI : List Int → List Int → Int → List Jp
 | p :: ps, v :: vs, was => (if v = was then [] else [⟨p, v - was⟩]) ++ toldI ps vs v
 | _, _, _ => []
theorem told_l0 (ps vs : List Int) (hl : ps.length ≤ 1000000) (hv : vs.length = ps.length) (hb : ∀ v ∈ vs, -2305843009213693952 ≤ v ∧ v ≤ 2305843009213693952) : ∀ (m i : Nat) (out : List Jp) (was : Int), ps.length - i = m → i ≤ ps.length → out.length ≤ i → -2305843009213693952 ≤ was ∧ was ≤ 2305843009213693952 →
  U (fun k => r09_Told.l0 k ps vs out was (i : Int)) (if mayJ (out ++ toldI (ps.drop i) (vs.drop i) was) = true then (out ++ toldI (ps.drop i) (vs.drop i) was, 0) else ([], 7))
 | m, i, out, was, hm, hi, ho, hw => by
  refine EvP.U.succ ?_; simp only [r09_Told.l0]
  by_cases c : i < ps.length
  ·have c' : i < vs.length := by omega
   refine EvP.U.pos zq4 (EvP.U.pos zq4 (EvP.U.pos zq4 ?_)); rw [rdI vs i c', rdI ps i c, wrapN i zq4]; have h1 := hb _ (List.getElem_mem c'); rw [List.drop_eq_getElem_cons c, List.drop_eq_getElem_cons c', toldI]
   by_cases c1 : vs[i] = was
   ·refine EvP.U.pos c1 ?_
    rw [if_pos c1, List.nil_append]
    match m, hm with
    | 0, hm => omega
    | m + 1, hm => exact told_l0 ps vs hl hv hb m (i + 1) out _ zq4 zq4 zq4 h1
   ·refine EvP.U.neg c1 (EvP.U.pos zq4 ?_)
    rw [if_neg c1, ← List.append_assoc, wrapS _ zq4 zq4]
    match m, hm with
    | 0, hm => omega
    | m + 1, hm => exact told_l0 ps vs hl hv hb m (i + 1) _ _ zq4 zq4 zq33 h1
  ·refine EvP.U.neg zq4 ?_
   rw [List.drop_eq_nil_of_le zq4]; have e : toldI [] (vs.drop i) was = [] := by rw [toldI]; simp
   rw [e, List.append_nil]; refine EvP.U.bind (may09 out) ?_; cases h : mayJ out with
   | true => exact EvP.U.pos rfl (EvP.U.some _)
   | false => exact EvP.U.neg zq34 (EvP.U.some _)
def placeS (acc : List Int) (x : Jp) : List Int := if x.f0 < 1125899906842624 then withI x.f0 acc else acc
def placesI (l : List Jp) : List Int := l.foldl placeS []
theorem placeS_len (acc : List Int) (x : Jp) : (placeS acc x).length ≤ acc.length + 1 := by
 unfold placeS; have := withI_len x.f0 acc
 split <;> omega
theorem placeS_inc (acc : List Int) (x : Jp) (h : acc.Pairwise (· < ·)) : (placeS acc x).Pairwise (· < ·) := by
 unfold placeS
 split
 ·exact withI_inc _ _ h
 ·exact h
theorem places_fold : ∀ (l : List Jp) (acc : List Int), acc.Pairwise (· < ·) → (l.foldl placeS acc).Pairwise (· < ·) ∧ ∀ z, z ∈ l.foldl placeS acc ↔ z ∈ acc ∨ ∃ x ∈ l, x.f0 = z ∧ z < 1125899906842624
 | [], acc, h => ⟨h, by simp⟩
 | x :: xs, acc, h => by
  obtain ⟨h1, h2⟩ := places_fold xs (placeS acc x) (placeS_inc acc x h); refine ⟨h1, fun z => ?_⟩; rw [List.foldl_cons, h2]; unfold placeS
  constructor
  ·rintro (h | ⟨y, hy, h3⟩)
   ·by_cases c : x.f0 < 1125899906842624
    ·rw [if_pos c, withI_mem] at h
     rcases h with rfl | h
     ·exact .inr ⟨x, List.mem_cons_self, rfl, c⟩
     ·exact .inl h
    ·rw [if_neg c] at h; exact .inl h
   ·exact .inr ⟨y, List.mem_cons_of_mem _ hy, h3⟩
  ·rintro (h | ⟨y, hy, h3, h4⟩)
   ·left
    split
    ·rw [withI_mem]; exact .inr h
    ·exact h
   ·rcases List.mem_cons.1 hy with rfl | hy
    ·left
     rw [if_pos zq4, withI_mem]; exact .inl h3.symm
    ·exact .inr ⟨y, hy, h3, h4⟩
theorem norm_l2 (l : List Jp) (ps : List Int) (hf : Fair l) (hl : l.length ≤ 1000000) (hp : ps.length ≤ 1000000) : ∀ (m i : Nat), ps.length - i = m → i ≤ ps.length → U (fun k => r09_Norm.l2 k l ps ((ps.take i).map (valI l)) (i : Int)) (toldJ (toldI ps (ps.map (valI l)) 0))
 | m, i, hm, hi => by
  refine EvP.U.succ ?_; simp only [r09_Norm.l2]
  by_cases c : i < ps.length
  ·refine EvP.U.pos zq4 (EvP.U.pos zq4 ?_)
   rw [rdI ps i c, wrapN i zq4]; refine EvP.U.bind (value09 l ps[i] hf hl) (EvP.U.pos zq33 ?_); have e : (ps.take i).map (valI l) ++ [valI l ps[i]] = (ps.take (i + 1)).map (valI l) := by
    rw [show ps.take (i + 1) = ps.take i ++ [ps[i]] by rw [List.take_add_one, List.getElem?_eq_getElem c]; rfl, List.map_append]; rfl
   rw [e]
   match m, hm with
   | 0, hm => omega
   | m + 1, hm => exact norm_l2 l ps hf hl hp m (i + 1) zq4 zq4
  ·obtain rfl : i = ps.length := by omega
   refine EvP.U.neg zq4 ?_; rw [List.take_length]; have hT := told_l0 ps (ps.map (valI l)) hp zq30 (fun v hv => by
    obtain ⟨p, _, rfl⟩ := List.mem_map.1 hv; have := valI_bound p l hf; omega) _ 0 [] 0 rfl (Nat.zero_le _) (Nat.zero_le _) zq4
   rw [List.drop_zero, List.drop_zero, List.nil_append] at hT; have hT2 : U (fun k => r09_Told.f k ps (ps.map (valI l))) (toldJ (toldI ps (ps.map (valI l)) 0)) := by
    unfold r09_Told.f toldJ; exact hT
   exact EvP.U.bind hT2 (EvP.U.some _)
theorem norm_l1 (l : List Jp) (hf : Fair l) (hl : l.length ≤ 1000000) : ∀ (m i : Nat), l.length - i = m → i ≤ l.length → U (fun k => r09_Norm.l1 k l ((l.take i).foldl placeS []) (i : Int)) (if (l.drop i).any (fun x => timeB x.f0) = true then ([], 13) else toldJ (toldI (placesI l) ((placesI l).map (valI l)) 0))
 | m, i, hm, hi => by
  refine EvP.U.succ ?_; simp only [r09_Norm.l1]; have hlen : ∀ (q : List Jp) (acc : List Int), (q.foldl placeS acc).length ≤ acc.length + q.length := by
   intro q
   induction q with
   | nil => intro acc; simp
   | cons x xs ih => intro acc; rw [List.foldl_cons]; have := ih (placeS acc x); have := placeS_len acc x; simp; omega
  by_cases c : i < l.length
  ·refine EvP.U.pos zq4 (EvP.U.pos zq4 ?_)
   rw [rdJ l i c, List.drop_eq_getElem_cons c, List.any_cons]; have hbad : timeB l[i].f0 = true → U (fun k => r09_Norm.j2 k l ((l.take i).foldl placeS []) (i : Int) true) (if (timeB l[i].f0 || (l.drop (i + 1)).any (fun x => timeB x.f0)) = true then ([], 13) else toldJ (toldI (placesI l) ((placesI l).map (valI l)) 0)) := fun h => by
    rw [h, Bool.true_or, if_pos rfl]; refine EvP.U.succ ?_; simp only [r09_Norm.j2]; exact EvP.U.pos trivial (EvP.U.some _)
   by_cases c1 : l[i].f0 < -1
   ·exact EvP.U.pos c1 (hbad (by unfold timeB; simp [c1]))
   refine EvP.U.neg c1 ?_
   by_cases c2 : l[i].f0 > 1125899906842624
   ·rw [decide_eq_true c2]; exact hbad (by unfold timeB; simp [c2])
   rw [decide_eq_false c2]; have ht : timeB l[i].f0 = false := by unfold timeB; simp [c1, c2]
   rw [ht, Bool.false_or]; refine EvP.U.succ ?_; simp only [r09_Norm.j2]; refine EvP.U.neg zq34 (EvP.U.pos zq4 (EvP.U.pos zq4 ?_)); rw [rdJ l i c, wrapN i zq4]; have hst : (l.take (i + 1)).foldl placeS [] = placeS ((l.take i).foldl placeS []) l[i] := by
    rw [show l.take (i + 1) = l.take i ++ [l[i]] by rw [List.take_add_one, List.getElem?_eq_getElem c]; rfl, List.foldl_append]; rfl
   have hln := hlen (l.take i) []; rw [List.length_take, List.length_nil] at hln; have next : U (fun k => r09_Norm.l1 k l ((l.take (i + 1)).foldl placeS []) ((i + 1 : Nat) : Int)) (if (l.drop (i + 1)).any (fun x => timeB x.f0) = true then ([], 13) else toldJ (toldI (placesI l) ((placesI l).map (valI l)) 0)) := by
    match m, hm with
    | 0, hm => omega
    | m + 1, hm => exact norm_l1 l hf hl m (i + 1) zq4 zq4
   by_cases c3 : l[i].f0 < 1125899906842624
   ·refine EvP.U.pos c3 (EvP.U.bind (with09 _ _ zq4 (places_fold (l.take i) [] List.Pairwise.nil).1) ?_)
    rw [hst, placeS, if_pos c3] at next; exact next
   ·refine EvP.U.neg c3 ?_
    rw [hst, placeS, if_neg c3] at next; exact next
  ·obtain rfl : i = l.length := by omega
   refine EvP.U.neg zq4 ?_; rw [List.take_length, List.drop_eq_nil_of_le (Nat.le_refl _)]; have := hlen l []; rw [List.length_nil] at this; have h2 := norm_l2 l (placesI l) hf hl (by unfold placesI; omega) _ 0 rfl (Nat.zero_le _)
   simpa [placesI] using h2
theorem norm_l0 (l : List Jp) (hl : l.length ≤ 1000000) : ∀ (m i : Nat), l.length - i = m → i ≤ l.length → (∀ x ∈ l.take i, -1048576 ≤ x.f1 ∧ x.f1 ≤ 1048576) → U (fun k => r09_Norm.l0 k l (i : Int)) (if (l.drop i).any (fun x => !fairB x.f1) = true then ([], 2) else if l.any (fun x => timeB x.f0) = true then ([], 13) else toldJ (toldI (placesI l) ((placesI l).map (valI l)) 0))
 | m, i, hm, hi, hx => by
  refine EvP.U.succ ?_; simp only [r09_Norm.l0]
  by_cases c : i < l.length
  ·refine EvP.U.pos zq4 (EvP.U.pos zq4 ?_)
   rw [rdJ l i c, List.drop_eq_getElem_cons c, List.any_cons, wrapN i zq4]
   by_cases c1 : l[i].f1 > 1048576
   ·have : fairB l[i].f1 = false := by unfold fairB; rw [decide_eq_false zq4, Bool.false_and]
    rw [this, Bool.not_false, Bool.true_or, if_pos rfl]; exact EvP.U.pos c1 (EvP.U.some _)
   refine EvP.U.neg c1 ?_
   by_cases c2 : l[i].f1 < -1048576
   ·have : fairB l[i].f1 = false := by unfold fairB; rw [decide_eq_false (show ¬(-1048576 ≤ l[i].f1) by omega), Bool.and_false]
    rw [this, Bool.not_false, Bool.true_or, if_pos rfl]; exact EvP.U.pos c2 (EvP.U.some _)
   refine EvP.U.neg c2 ?_; have : fairB l[i].f1 = true := by unfold fairB; rw [decide_eq_true zq4, decide_eq_true zq4]; rfl
   rw [this, Bool.not_true, Bool.false_or]
   match m, hm with
   | 0, hm => omega
   | m + 1, hm => exact norm_l0 l hl m (i + 1) zq4 zq4 (fun x h => by
     rw [show l.take (i + 1) = l.take i ++ [l[i]] by rw [List.take_add_one, List.getElem?_eq_getElem c]; rfl, List.mem_append] at h
     rcases h with h | h
     ·exact hx x h
     ·rw [List.mem_singleton] at h; subst h; omega)
  ·obtain rfl : i = l.length := by omega
   rw [List.take_length] at hx; refine EvP.U.neg zq4 ?_; rw [List.drop_eq_nil_of_le (Nat.le_refl _)]; have := norm_l1 l hx hl _ 0 rfl (Nat.zero_le _)
   simpa using this
theorem told_mem (ps : List Int) : ∀ (vs : List Int) (was : Int), ∀ x ∈ toldI ps vs was, x.f0 ∈ ps := by
 induction ps with
 | nil => intro vs was x hx; rw [toldI] at hx; simp at hx; simp
 | cons p ps ih =>
  intro vs was x hx; cases vs with
  | nil => rw [toldI] at hx; simp at hx; simp
  | cons v vs =>
   rw [toldI, List.mem_append] at hx
   rcases hx with hx | hx
   ·split at hx
    ·simp at hx
    ·rw [List.mem_singleton] at hx; subst hx; exact List.mem_cons_self
   ·exact List.mem_cons_of_mem _ (ih vs v x hx)
theorem told_is (ps : List Int) (h : ps.Pairwise (· < ·)) : ∀ (vs : List Int) (was : Int), IsCanon ltI ((toldI ps vs was).map pJ) := by
 induction ps with
 | nil => intro vs was; rw [toldI]; exact ⟨List.Pairwise.nil, by simp⟩; simp
 | cons p ps ih =>
  intro vs was; have h2 := List.pairwise_cons.1 h; cases vs with
  | nil => rw [toldI]; exact ⟨List.Pairwise.nil, by simp⟩; simp
  | cons v vs =>
   rw [toldI]; have r := ih h2.2 vs v
   split
   ·rw [List.nil_append]; exact r
   ·rename_i c
    refine ⟨?_, fun x hx => ?_⟩
    ·rw [List.singleton_append, List.map_cons]
     refine List.pairwise_cons.2 ⟨fun y hy => ?_, r.1⟩; obtain ⟨z, hz, rfl⟩ := List.mem_map.1 hy; have := h2.1 _ (told_mem ps vs v z hz); exact decide_eq_true this
    ·rw [List.singleton_append, List.map_cons] at hx
     rcases List.mem_cons.1 hx with rfl | hx
     ·show v - was ≠ 0
      omega
     ·exact r.2 x hx
theorem val_diff (q p : Int) (hqp : q < p) : ∀ l : List Jp, (∀ x ∈ l, q < x.f0 → x.f0 ≤ p → x.f0 = p) → valI l p - valI l q = J (l.map pJ) p
 | [], _ => by simp [valI, J_nil]
 | x :: xs, h => by
  have r := val_diff q p hqp xs (fun y hy => h y (List.mem_cons_of_mem _ hy)); have hx := h x List.mem_cons_self; rw [List.map_cons, J_cons, ← r]
  show ((if x.f0 ≤ p then x.f1 else 0) + valI xs p) - ((if x.f0 ≤ q then x.f1 else 0) + valI xs q) = (if x.f0 = p then x.f1 else 0) + (valI xs p - valI xs q)
  by_cases c1 : x.f0 ≤ q
  ·rw [if_pos zq4, if_pos c1, if_neg zq4]; omega
  ·by_cases c2 : x.f0 ≤ p
   ·rw [if_pos c2, if_neg c1, if_pos (hx zq4 c2)]; omega
   ·rw [if_neg c2, if_neg c1, if_neg zq4]; omega
theorem J_zero (l : List Jp) (k : Int) (h : ∀ x ∈ l, x.f0 ≠ k) : J (l.map pJ) k = 0 := J_none k _ (fun y hy => by
 obtain ⟨x, hx, rfl⟩ := List.mem_map.1 hy; exact h x hx)
theorem told_J (l : List Jp) (ps : List Int) : ∀ (q : Int), ps.Pairwise (· < ·) → (∀ p ∈ ps, q < p ∧ p < 1125899906842624) → (∀ x ∈ l, q < x.f0 → x.f0 < 1125899906842624 → x.f0 ∈ ps) → ∀ k, J ((toldI ps (ps.map (valI l)) (valI l q)).map pJ) k = if q < k ∧ k < 1125899906842624 then J (l.map pJ) k else 0 := by
 induction ps with
 | nil =>
  intro q _ _ h3 k; rw [toldI]
  ·split
   ·rename_i c
    rw [J_zero l k (fun x hx e => by have := h3 x hx zq4 zq4; simp at this)]; rfl
   ·rfl
  ·simp
 | cons p ps ih =>
  intro q h1 h2 h3 k; have h1' := List.pairwise_cons.1 h1; have hp := h2 p List.mem_cons_self; have r := ih p h1'.2 (fun z hz => ⟨h1'.1 z hz, (h2 z (List.mem_cons_of_mem _ hz)).2⟩) (fun x hx c1 c2 => by
   rcases List.mem_cons.1 (h3 x hx zq4 c2) with e | e
   ·omega
   ·exact e) k
  have hd := val_diff q p hp.1 l (fun x hx c1 c2 => by
   rcases List.mem_cons.1 (h3 x hx c1 zq4) with e | e
   ·exact e
   ·have := h1'.1 _ e; omega)
  rw [List.map_cons, toldI, List.map_append, J_append, r]; have hhead : J ((if valI l p = valI l q then [] else [(⟨p, valI l p - valI l q⟩ : Jp)]).map pJ) k = if p = k then valI l p - valI l q else 0 := by
   split
   ·rename_i c
    rw [List.map_nil, J_nil]
    split <;> omega
   ·rw [List.map_cons, List.map_nil, J_cons, J_nil]
    show (if p = k then valI l p - valI l q else 0) + 0 = _
    rw [Int.add_zero]
  rw [hhead, hd]
  by_cases c : p = k
  ·subst c
   rw [if_pos rfl, if_neg zq4, if_pos hp]; omega
  ·rw [if_neg c]
   by_cases c1 : p < k ∧ k < 1125899906842624
   ·rw [if_pos c1, if_pos ⟨by omega, c1.2⟩]; omega
   ·rw [if_neg c1]
    split
    ·rename_i c2
     rw [J_zero l k (fun x hx e => by
      rcases List.mem_cons.1 (h3 x hx zq4 zq4) with e' | e'
      ·omega
      ·have := h1'.1 _ e'; omega)]; rfl
    ·rfl
theorem val_low (q : Int) : ∀ l : List Jp, (∀ x ∈ l, q < x.f0) → valI l q = 0
 | [], _ => rfl
 | x :: xs, h => by
  have := h x List.mem_cons_self; rw [valI, if_neg zq4, val_low q xs (fun y hy => h y (List.mem_cons_of_mem _ hy))]; rfl
theorem told_canon (l : List Jp) (h : ∀ x ∈ l, -1 ≤ x.f0) : toldI (placesI l) ((placesI l).map (valI l)) 0 = canonJ l := by
 obtain ⟨hs, hm⟩ := places_fold l [] List.Pairwise.nil; have hz := val_low (-2) l (fun x hx => by have := h x hx; omega); have hJ := told_J l (placesI l) (-2) hs (fun p hp => by
  rcases (hm p).1 hp with e | ⟨x, hx, e, e2⟩
  ·simp at e
  ·have := h x hx; omega) (fun x hx _ c2 => (hm _).2 (.inr ⟨x, hx, rfl, c2⟩))
 rw [hz] at hJ; have e := canon_eq ltI_ord (told_is (placesI l) hs ((placesI l).map (valI l)) 0) (l := (l.map pJ).filter fun x => decide (x.1 < 1125899906842624)) (fun k => by
  rw [hJ k, J_filterK (fun z => decide (z < 1125899906842624)) k]
  by_cases c : k < 1125899906842624
  ·by_cases c2 : -2 < k
   ·rw [if_pos ⟨c2, c⟩, if_pos (decide_eq_true c)]
   ·rw [if_neg zq4, if_pos (decide_eq_true c), J_zero l k (fun x hx e => by have := h x hx; omega)]
  ·rw [if_neg zq4, if_neg (by simpa using c)])
 unfold canonJ; rw [← e, List.map_map]; have : (uJ ∘ pJ) = id := by funext x; exact uJ_pJ x
 rw [this, List.map_id]
theorem norm09 (l : List Jp) (hl : l.length ≤ 1000000) : U (fun k => r09_Norm.f k l) (normJ l) := by
 have := norm_l0 l hl _ 0 rfl (Nat.zero_le _) zq30; rw [List.drop_zero] at this; unfold r09_Norm.f; refine EvP.U.congr_r this ?_; unfold normJ
 split
 ·rfl
 ·split
  ·rfl
  ·rename_i h
   rw [told_canon l (fun x hx => by
    by_cases c : x.f0 < -1
    ·exact absurd (List.any_eq_true.2 ⟨x, hx, by unfold timeB; simp [c]⟩) h
    ·omega)]
theorem may_len {r : List Vl} (h : rowMay r = true) : r.length ≤ 8 := by
 unfold rowMay at h; rw [Bool.and_eq_true] at h; exact of_decide_eq_true h.1
theorem rowIns_len (r : List Vl) : ∀ l : List (List Vl), (rowIns r l).length ≤ l.length + 1
 | [] => by simp [rowIns]
 | x :: xs => by
  unfold rowIns; have := rowIns_len r xs
  split
  ·simp; omega
  ·split <;> simp
theorem rowIns_take (r : List Vl) : ∀ (j : Nat) (rows : List (List Vl)), (∀ x ∈ rows.take j, rC x r < 0) → rowIns r rows = rows.take j ++ rowIns r (rows.drop j)
 | 0, rows, _ => by simp
 | j + 1, [], _ => by simp
 | j + 1, x :: xs, h => by
  rw [rowIns, if_pos (h x zq30), rowIns_take r j xs (fun y hy => h y (by simp [hy]))]; simp
theorem fold_rows : ∀ (l : List EdP) (acc : List (List Vl)), Inc acc → Inc (l.foldl (fun a e => rowIns e.f0 a) acc) ∧ ∀ z, z ∈ l.foldl (fun a e => rowIns e.f0 a) acc ↔ z ∈ acc ∨ ∃ e ∈ l, e.f0 = z
 | [], acc, h => ⟨h, by simp⟩
 | e :: es, acc, h => by
  obtain ⟨h1, h2⟩ := fold_rows es (rowIns e.f0 acc) (rowIns_inc _ _ h); refine ⟨h1, fun z => ?_⟩; rw [List.foldl_cons, h2, rowIns_mem]
  constructor
  ·rintro ((h | h) | ⟨x, hx, h⟩)
   ·exact .inr ⟨e, List.mem_cons_self, h.symm⟩
   ·exact .inl h
   ·exact .inr ⟨x, List.mem_cons_of_mem _ hx, h⟩
  ·rintro (h | ⟨x, hx, h⟩)
   ·exact .inl (.inr h)
   ·rcases List.mem_cons.1 hx with rfl | hx
    ·exact .inl (.inl h.symm)
    ·exact .inr ⟨x, hx, h⟩
end Go.Proofs.YtmkgecapkeojaaaGreat.Eg
end
section
namespace Go.Proofs.YtmkgecapkeojaaaGreat.Eg
open Go.Proofs.YtmkgecapkeojaaaGreat Go.Proofs.YtmkgecapkeojaaaGreat.PDa
open Go.RowKit Go.Proofs.YtmkgecapkeojaaaGreatW.PrintWords Go.Proofs.YtmkgecapkeojaaaGreatW.PrintLast Go.Proofs.YtmkgecapkeojaaaGreatW.PrintMore
open Go.Proofs.YtmkgecapkeojaaaGreat.Stp Go.Proofs.YtmkgecapkeojaaaGreat.Rw Go.Proofs.YtmkgecapkeojaaaGreat.SortM
structure Hold3 (p : Prop) : Prop where
 out : p
theorem hold3 {p : Prop} (h : Hold3 p) : p := h.out
def kHd {α : Type} (e : Nat) (d : Kd α) (W0 : World) : Kd (List α) where
 sz := 1
 E := []
 K := fun _ x cs => (Kd.slice e d).K W0 x cs
 M := fun _ _ _ x cs => (Kd.slice e d).K W0 x cs
 K_len := fun h => (Kd.slice e d).K_len h
 K_one := fun h => (Kd.slice e d).K_one h
 K_below := fun _ h => h
 K_of_M := fun h => h
 M_mono := fun _ h => h
 M_bound := fun h => h
 M_move := fun _ h => h
 M_lower := fun _ h => h
theorem kHd_C {α : Type} {e : Nat} {d : Kd α} {W0 W : World} {A : Option Addr} {n : Nat} {xs : List (List α)} (hb : Below W0.heap.size W0 W) (h : (kHd e d W0).C W A n xs) : Kd.C (Kd.slice e d) W A n xs := ReadsRow.imp_ h (Below.refl _ _) (fun _ _ hp => (Kd.slice e d).K_below hb hp)
theorem kHd_up {α : Type} {e e' base : Nat} {d : Kd α} {ok : Nat → Prop} {W0 W1 w : World} {v : Value} {xs : List (List α)} (hb : Below W0.heap.size W0 W1) (h : (kHd e d W0).R e' w base ok v xs) : (kHd e d W1).R e' w base ok v xs := Kd.R_imp (d := kHd e d W0) (d' := kHd e d W1) rfl (fun _ _ _ _ _ hp => (Kd.slice e d).K_below hb hp) h
abbrev kH (W0 : World) : Kd (List Vl) := kHd tV kV W0
theorem kH_C {W0 W : World} {A : Option Addr} {n : Nat} {xs : List (List Vl)} (hb : Below W0.heap.size W0 W) (h : (kH W0).C W A n xs) : Kd.C (Kd.slice tV kV) W A n xs := ReadsRow.imp_ h (Below.refl _ _) (fun _ _ hp => (Kd.slice tV kV).K_below hb hp)
theorem at_H {W0 W : World} {A : Option Addr} {n : Nat} {xs : List (List Vl)} (h : (kH W0).C W A n xs) (i : Nat) (r : List Vl) (hi : xs[i]? = some r) : ∃ ad Ax cx, A = some ad ∧ W.cell? (ad.add i) = some (.slice Ax r.length cx) ∧ r.length ≤ cx ∧ Kd.C kV W0 Ax r.length r := by
 have hl := (List.getElem?_eq_some_iff.1 hi).1; obtain ⟨ad, c, hA, _, hK, hc⟩ := Kd.C_get h ([] : List Vl) (i : Int) zq4 (by have := h.1; omega); rw [Int.toNat_natCast] at hK hc; rw [List.getD_eq_getElem?_getD, hi, Option.getD_some] at hK; obtain ⟨Ax, cx, rfl, hx, hC⟩ := hK; have h0 := hc 0 _ rfl; rw [show i * (kH W0).sz + 0 = i from Nat.mul_one i] at h0; exact ⟨ad, Ax, cx, hA, h0, hx, hC⟩
abbrev tR : Nat := 39
abbrev tRs : Nat := 93
abbrev insR (l : List EdP) : List (List Vl) := l.foldl (fun a e => rowIns e.f0 a) []
theorem insR_eq (l : List EdP) : insR l = rowsOf l := by
 obtain ⟨h1, h2⟩ := fold_rows l [] List.Pairwise.nil; refine inc_uniq _ _ h1 (rowsOf_inc l) (fun z => ?_); rw [h2, rowsOf_mem]; simp
theorem insR_len (l : List EdP) : (insR l).length ≤ l.length := by
 rw [insR_eq]; unfold rowsOf
 induction l with
 | nil => simp
 | cons e es ih =>
  rw [List.map_cons, List.foldr_cons]; have := rowIns_len e.f0 ((es.map (·.f0)).foldr rowIns []); simp only [List.length_cons]; omega
theorem hrows_calls (A0 : Option Addr) (c0 : Nat) (l : List EdP) (W0 w : World) (hr0 : Kd.C kE W0 A0 l.length l) (hW : Below W0.heap.size W0 w) (hl : l.length ≤ 1000000) (hmay : ∀ e ∈ l, rowMay e.f0 = true) :
  Calls Tryz.prog 66 #[.slice A0 l.length c0] w fun e w' => ∃ v, e = .returned v ∧ (kH W0).R 39 w' w.heap.size (fun _ => True) v (rowsOf l) ∧ Below w.heap.size w w' := by
 have hu := Tryz.underlying93; have HR := Lib.hid hr0; have HW := Lib.hid hW; have HM := Lib.hid hmay; have HL := Lib.hid hl; clear hr0 hW hmay hl; go_enter Tryz.func66, Tryz.ntmps66
 go_wp2_with (first | ((with_reducible refine gate_dst (N := 7) rfl ?_); refine Kd.R_lit (kH W0) _ 39 ?hg (N := 7) ?hd (xs := ([] : List (List Vl))) (inner := []) (ok := fun _ => True) (okp := fun _ => True) ?hr ?hp (fun _ hk => hk) trivial (Below.refl _ _) (Nat.le_refl _) zq30 ?_; (case hd => rfl); (case hg => rfl); (case hr => first | (go_simp; done) | (go_simp; rfl)); (case hp => exact (Reps.none _ _)); intro v7 w1 ho1 hb1 hg_ hnew_; have HO1 := Lib.hid ho1; have HB1 := Lib.hid hb1; clear hg_ hnew_ hb1 ho1))
 go_loopw [3, 4] (fun v3 v4 wr => ∃ (i : Nat) (A3 : Option Addr) (c3 : Nat), i ≤ l.length ∧ v4 = .int .i64 (i : Int) ∧ v3 = .slice A3 (insR (l.take i)).length c3 ∧ Aside0 ((kH W0).R 39 wr w.heap.size (fun _ => True) (.slice A3 (insR (l.take i)).length c3) (insR (l.take i))) ∧ Aside0 (Below w.heap.size w wr)) (fun v3 v4 wr => l.length - (intOf v4).toNat)
 case atStart =>
  obtain ⟨A3, c3, rfl⟩ := Kd.R_slice HO1.out; exact ⟨0, A3, c3, Nat.zero_le _, rfl, rfl, ⟨HO1.out⟩, ⟨HB1.out⟩⟩
 case round =>
  clear HO1 HB1; obtain ⟨i, A3, c3, hi, rfl, rfl, HO, HB⟩ := hrel; have hll := HL.out
  by_cases c : i < l.length
  ·obtain ⟨X, hX⟩ : ∃ X, l[i] = X := ⟨_, rfl⟩
   obtain ⟨RS, hRS⟩ : ∃ z, insR (l.take i) = z := ⟨_, rfl⟩
   have HNX := Lib.hid (show insR (l.take (i + 1)) = rowIns X.f0 RS by
    unfold insR at hRS ⊢; rw [List.take_add_one, List.getElem?_eq_getElem c, hX, Option.toList_some, List.foldl_append, hRS]; rfl)
   have hrl : RS.length ≤ l.length := by
    have h1 := insR_len (l.take i); rw [hRS, List.length_take] at h1; omega
   have HRM := Lib.hid (show ∀ r ∈ RS, rowMay r = true by
    intro r hr; rw [← hRS, insR_eq, rowsOf_mem] at hr; obtain ⟨e, he, rfl⟩ := hr; exact HM.out e (List.mem_of_mem_take he))
   have HXM := Lib.hid (HM.out X (by rw [← hX]; exact List.getElem_mem c)); rw [hRS] at HO ⊢; obtain ⟨ad, Ax, cx, e1, x0, x1, x2, x3, x4⟩ := at_T41 (Kd.C_below HR.out (HW.out.trans (HB.out.mono HW.out.size))) (i : Int) zq4 zq4; rw [Int.toNat_natCast, rdE l i c, hX] at x0; rw [rdE l i c, hX] at x3 x4; cases e1; have HX0 := Lib.hid x0; have HXK := Lib.hid (show (Kd.slice tV kV).K W0 X.f0 [.slice Ax X.f0.length cx] by
    obtain ⟨ad', Ax', cx', e1', y0, y1, y2, y3, y4⟩ := at_T41 HR.out (i : Int) zq4 zq4; rw [Int.toNat_natCast, rdE l i c, hX] at y0; rw [rdE l i c, hX] at y3 y4; cases e1'; have h5 := pw_cell_below (HW.out.trans (HB.out.mono HW.out.size)) y0; rw [h5] at x0; injection x0 with x0
    injection x0 with q1 q2 q3
    subst q1 q3; exact ⟨_, _, rfl, y3, y4⟩)
   have HXC := Lib.hid x4; have hxl := x3; obtain ⟨i0, hi0, _, hsz0, _⟩ := info_parts info39; have hlc := (Kd.R_reads' HO.out).2.1; have HCT := Lib.hid (fun (j : Nat) (hj : j ≤ RS.length) => show ∀ W : World, (Instr.slice tRs (.slice A3 RS.length c3) none (some (.int .i64 (j : Int))) none).run Tryz.prog W = .ok (.slice A3 j c3) W from
    cut_to (P := Tryz.prog) tRs tR .i64 hu hi0 A3 RS.length c3 (j : Int) zq4 zq4 hlc)
   obtain ⟨CF, hCF⟩ : ∃ f : Nat → Option Addr, f = fun j => if c3 = j then A3 else A3.map (·.add (j * 1)) := ⟨_, rfl⟩
   have HCF := Lib.hid (fun (j : Nat) (hj : j ≤ RS.length) => show ∀ W : World, (Instr.slice tRs (.slice A3 RS.length c3) (some (.int .i64 (j : Int))) none none).run Tryz.prog W = .ok (.slice (CF j) (RS.length - j) (c3 - j)) W by
    have h := cut_from (P := Tryz.prog) tRs tR .i64 hu hi0 1 hsz0 A3 RS.length c3 (j : Int) zq4 zq4; rw [hCF]; exact h)
   have HDR := Lib.hid (fun (j : Nat) (hj : j ≤ RS.length) (W : World) (h : (kH W0).C W A3 RS.length RS) => show (kH W0).C W (CF j) (RS.length - j) (RS.drop j) by
    rw [hCF, ← List.length_drop]; exact Kd.C_drop h hj hlc)
   clear x0 x1 x2 x3 x4 hX hRS hCF hi0 hsz0; obtain ⟨wo, hwo⟩ : ∃ x, x = wr := ⟨_, rfl⟩
   subst hwo; go_wp2
   go_loopw [5] (fun v5 wr => ∃ (j : Nat), j ≤ RS.length ∧ v5 = .int .i64 (j : Int) ∧ Aside0 (∀ x ∈ RS.take j, rC x X.f0 < 0) ∧ Aside0 (Below wo.heap.size wo wr)) (fun v5 wr => RS.length - (intOf v5).toNat)
   case atStart => exact ⟨0, Nat.zero_le _, rfl, ⟨by simp⟩, ⟨Below.refl _ _⟩⟩
   case round =>
    obtain ⟨j, hj, rfl, HLOW, HBI⟩ := hrel; have HT := Lib.hid (rowIns_take X.f0 j RS HLOW.out); have HXi := Lib.hid (pw_cell_below HBI.out HX0.out)
    by_cases cj : j < RS.length
    ·obtain ⟨Y, hY⟩ : ∃ Y, RS[j] = Y := ⟨_, rfl⟩
     obtain ⟨a3, Ay, cy, e3, y0, y1, y2⟩ := at_L3 (kH_C (HW.out.trans ((HB.out.trans (HBI.out.mono HB.out.size)).mono HW.out.size)) (Kd.R_reads' (Kd.R_below HO.out HBI.out)).2.2) (j : Int) zq4 zq4; rw [rdR RS j cj, hY] at y0 y1 y2; rw [Int.toNat_natCast] at y0; cases e3; have hd : RS.drop j = Y :: RS.drop (j + 1) := by rw [List.drop_eq_getElem_cons cj, hY]
     have hjm := HRM.out Y (by rw [← hY]; exact List.getElem_mem cj); have hcr := cmpR_rC hjm HXM.out; have HTJ := Lib.hid (show RS.take (j + 1) = RS.take j ++ [Y] by rw [List.take_add_one, List.getElem?_eq_getElem cj, hY]; rfl); obtain ⟨kc, hkc⟩ := (ref06 Y X.f0).get; obtain ⟨ks, hks⟩ := (same06 Y X.f0 (by have := may_len hjm; omega)).get; have xC := Kd.C_below HXC.out HBI.out; have x0' := fun p => BelowOf.cell HXi.out p
     have y0' := fun p => BelowOf.cell y0 p
     have pj : decide ((j : Int) < (RS.length : Int)) = true := decide_eq_true zq4; have pJ : (0 ≤ (j : Int)) = True := eq_true zq4; have qJ : ((j : Int) < (RS.length : Int)) = True := eq_true zq4; have pI : (0 ≤ (i : Int)) = True := eq_true zq4; have qI : ((i : Int) < (l.length : Int)) = True := eq_true zq4; have CM := Lib.hid (fun (p : BelowOf wr) => r06_Compare.calls kc Ay cy Y Ax cx X.f0 _ p.W (Kd.C_below y2 p.h) y1 (Kd.C_below xC p.h) hxl hkc); have CS := Lib.hid (fun (W : World) (h : Below wr.heap.size wr W) => (r06_Same.calls ks Ay cy Y Ax cx X.f0 _ W (Kd.C_below y2 h) y1 (Kd.C_below xC h) hxl hks).mono fun e w' z => (show e = .returned (.bool (eqR Y X.f0)) ∧ Below W.heap.size W w' from ⟨z.1, z.2.below⟩)); rw [hcr] at CM; clear y2 y1 hkc hks xC hcr hY
     by_cases hc : rC Y X.f0 < 0
     ·have bc : decide (rC Y X.f0 < 0) = true := decide_eq_true hc
      go_wp2; refine wp_region_quiet_below zq17 zq17 ?_
      repeat (go_big_quiet_step (exact below_calls (CM.out _)))
      refine wpQuiet_nil ?_; intro wq hw1; have HBN := Lib.hid (show Below wo.heap.size wo wq by obtain ⟨p, rfl⟩ := hw1; exact HBI.out.trans (p.h.mono HBI.out.size)); clear hw1 x0' y0' y0 CM CS; go_wp2; go_roundw
      case rel =>
       refine ⟨j + 1, by omega, by go_num, ⟨fun x hx => ?_⟩, ⟨HBN.out⟩⟩; rw [HTJ.out, List.mem_append] at hx
       rcases hx with hx | hx
       ·exact HLOW.out x hx
       ·rw [List.mem_singleton] at hx; subst hx; exact hc
      case measure => simp [intOf]; omega
     ·have bc : decide (rC Y X.f0 < 0) = false := decide_eq_false hc
      have HNC := Lib.hid hc; have HD := Lib.hid hd; clear hc hd; go_wp2; refine wp_region_quiet_below zq17 zq17 ?_
      repeat (go_big_quiet_step (exact below_calls (CM.out _)))
      refine wpQuiet_nil ?_; intro wq hw1; have HBQ := Lib.hid (show Below wr.heap.size wr wq by obtain ⟨p, rfl⟩ := hw1; exact p.h); have CS2 := Lib.hid (fun (p : BelowOf wq) => CS.out p.W (HBQ.out.trans (p.h.mono HBQ.out.size))); have x1' := fun p => BelowOf.cell (pw_cell_below HBQ.out HXi.out) p
      have y1' := fun p => BelowOf.cell (pw_cell_below HBQ.out y0) p
      clear hw1 x0' y0' CM CS y0; cases hs : eqR Y X.f0
      ·rw [hs] at CS2
       have he : ¬ Y = X.f0 := fun e => by rw [(eqR_iff _ _).2 e] at hs; cases hs
       have HNEW := Lib.hid (show insR (l.take (i + 1)) = RS.take j ++ [X.f0] ++ RS.drop j by
        rw [HNX.out, HT.out, HD.out, rowIns, if_neg (by have := HNC.out; omega), if_neg he, List.append_assoc]; rfl)
       clear he hs; go_wp2; refine wp_region_quiet_below zq17 zq17 ?_
       repeat (go_big_quiet_step (exact below_calls (CS2.out _)))
       refine wpQuiet_nil ?_; intro wz hw2; have HBZ := Lib.hid (show Below wo.heap.size wo wz by obtain ⟨p, rfl⟩ := hw2; exact (HBI.out.trans (HBQ.out.mono HBI.out.size)).trans (p.h.mono (Nat.le_trans HBI.out.size HBQ.out.size))); clear hw2; have HXZ := Lib.hid (pw_cell_below HBZ.out HX0.out); have HOZ := Lib.hid (Kd.R_below HO.out HBZ.out); have hct := HCT.out j hj; have hcf := HCF.out j hj; have HDZ := Lib.hid (HDR.out j hj); obtain ⟨AF, hAF⟩ : ∃ z, CF j = z := ⟨_, rfl⟩
       rw [hAF] at hcf HDZ; clear hAF
       go_wp2_with (first
        | ((with_reducible refine gate_dst (N := 49) rfl ?_); refine Kd.R_lit (kH W0) _ tR ?hg (N := 49) ?hd (xs := ([] : List (List Vl))) (inner := []) (ok := fun _ => True) (okp := fun _ => True) ?hr ?hp (fun _ hk => hk) trivial (Below.refl _ _) (Nat.le_refl _) zq30 ?_; (case hd => rfl); (case hg => rfl); (case hr => first | (go_simp; done) | (go_simp; rfl)); (case hp => exact (Reps.none _ _)); intro v49 wa ho hb hg_ hnew_; have HOA := Lib.hid ho; have HBA := Lib.hid hb; clear ho hb hg_ hnew_)
        | ((with_reducible refine gate_dst (N := 53) rfl ?_); refine Kd.R_append_rows (kH W0) (w0 := wz) wz.heap.size rfl (.tmp 49) (.tmp 52) tRs tR (.slice none 0 0) 24 rfl hu info39 rfl Nat.one_pos zq4 v49 [] (RS.take j) _ _ _ (fun _ => True) (fun _ => False) rfl rfl HOA.out ?aR (fun _ _ h => h) (fun _ h => h.elim) (fun _ _ => trivial) HBA.out HBA.out.size ?aL ?_; (case aR => have h := Kd.C_take (Kd.R_reads' (Kd.R_below HOZ.out HBA.out)).2.2 hj; rw [List.length_take, Nat.min_eq_left hj] at h; exact h); (case aL => rw [List.length_nil]; omega); intro v53 wb ho hb hg_ hnew_; have HOB := Lib.hid (show (kH W0).R tR wb wz.heap.size (fun _ => True) v53 (RS.take j) from ho); have HBB := Lib.hid hb; have xb := pw_cell_below hb HXZ.out; clear ho hb hg_ hnew_)
        | ((with_reducible refine gate_dst (N := 61) rfl ?_); at_builtin; refine Kd.R_append (kH W0) (w0 := wz) wz.heap.size rfl (.tmp 54) (.tmp 60) tRs tR (.slice none 0 0) 24 rfl hu info39 rfl Nat.one_pos zq4 v53 (RS.take j) X.f0 [.slice Ax X.f0.length cx] (fun _ => True) (fun _ => False) rfl rfl HXK.out (fun _ h => h.elim) (fun _ _ => trivial) HOB.out HBB.out HBB.out.size ?aL ?_; (case aL => rw [List.length_take]; omega); intro v61 wc ho hb hg_ hnew_; have HOC := Lib.hid ho; have HBC := Lib.hid hb; clear ho hb hg_ hnew_)
        | ((with_reducible refine gate_dst (N := 66) rfl ?_); refine Kd.R_append_rows (kH W0) (w0 := wz) wz.heap.size rfl (.tmp 62) (.tmp 65) tRs tR (.slice none 0 0) 24 rfl hu info39 rfl Nat.one_pos zq4 v61 (RS.take j ++ [X.f0]) (RS.drop j) _ _ _ (fun _ => True) (fun _ => False) rfl rfl HOC.out ?aR (fun _ _ h => h) (fun _ h => h.elim) (fun _ _ => trivial) HBC.out HBC.out.size ?aL ?_; (case aR => exact HDZ.out wc (Kd.R_reads' (Kd.R_below HOZ.out HBC.out)).2.2); (case aL => rw [List.length_append, List.length_take, List.length_singleton]; omega); intro v66 wd ho hb hg_ hnew_; have HOD := Lib.hid ho; have HBD := Lib.hid hb; clear ho hb hg_ hnew_))
       obtain ⟨AD, cD, rfl⟩ := Kd.R_slice HOD.out; go_roundw
       case rel => exact ⟨i + 1, AD, cD, by omega, by go_num, by rw [HNEW.out], ⟨by rw [HNEW.out]; exact Kd.R_lower HOD.out (Nat.le_trans HB.out.size HBZ.out.size)⟩, ⟨(HB.out.trans (HBZ.out.mono HB.out.size)).trans (HBD.out.mono (Nat.le_trans HB.out.size HBZ.out.size))⟩⟩
       case measure => simp [intOf]; omega
      ·rw [hs] at CS2
       have he := (eqR_iff _ _).1 hs; have HNEW := Lib.hid (show insR (l.take (i + 1)) = RS by
        rw [HNX.out, HT.out, HD.out, rowIns, if_neg (by have := HNC.out; omega), if_pos he, ← HD.out, List.take_append_drop])
       clear he hs; go_wp2; refine wp_region_quiet_below zq17 zq17 ?_
       repeat (go_big_quiet_step (exact below_calls (CS2.out _)))
       refine wpQuiet_nil ?_; intro wz hw2; have HBZ := Lib.hid (show Below wo.heap.size wo wz by obtain ⟨p, rfl⟩ := hw2; exact (HBI.out.trans (HBQ.out.mono HBI.out.size)).trans (p.h.mono (Nat.le_trans HBI.out.size HBQ.out.size))); clear hw2 x1' y1' CS2; go_wp2; go_roundw
       case rel => exact ⟨i + 1, _, _, by omega, by go_num, by rw [HNEW.out], ⟨by rw [HNEW.out]; exact Kd.R_below HO.out HBZ.out⟩, ⟨HB.out.trans (HBZ.out.mono HB.out.size)⟩⟩
       case measure => simp [intOf]; omega
    ·have pj : decide ((j : Int) < (RS.length : Int)) = false := decide_eq_false zq4
     have HNEW := Lib.hid (show insR (l.take (i + 1)) = RS.take j ++ [X.f0] ++ RS.drop j by
      rw [HNX.out, HT.out, List.drop_eq_nil_of_le zq4, rowIns, List.append_nil])
     go_wp2; refine wp_region_quiet_below zq17 zq17 ?_
     repeat (go_big_quiet_step (fail))
     refine wpQuiet_nil ?_; intro wq hw1; have HBQ := Lib.hid (show Below wr.heap.size wr wq by obtain ⟨p, rfl⟩ := hw1; exact p.h); clear hw1; go_wp2; refine wp_region_quiet_below zq17 zq17 ?_
     repeat (go_big_quiet_step (fail))
     refine wpQuiet_nil ?_; intro wz hw2; have HBZ := Lib.hid (show Below wo.heap.size wo wz by obtain ⟨p, rfl⟩ := hw2; exact (HBI.out.trans (HBQ.out.mono HBI.out.size)).trans (p.h.mono (Nat.le_trans HBI.out.size HBQ.out.size))); clear hw2; have HXZ := Lib.hid (pw_cell_below HBZ.out HX0.out); have HOZ := Lib.hid (Kd.R_below HO.out HBZ.out); have hct := HCT.out j hj; have hcf := HCF.out j hj; have HDZ := Lib.hid (HDR.out j hj); obtain ⟨AF, hAF⟩ : ∃ z, CF j = z := ⟨_, rfl⟩
     rw [hAF] at hcf HDZ; clear hAF
     go_wp2_with (first
      | ((with_reducible refine gate_dst (N := 49) rfl ?_); refine Kd.R_lit (kH W0) _ tR ?hg (N := 49) ?hd (xs := ([] : List (List Vl))) (inner := []) (ok := fun _ => True) (okp := fun _ => True) ?hr ?hp (fun _ hk => hk) trivial (Below.refl _ _) (Nat.le_refl _) zq30 ?_; (case hd => rfl); (case hg => rfl); (case hr => first | (go_simp; done) | (go_simp; rfl)); (case hp => exact (Reps.none _ _)); intro v49 wa ho hb hg_ hnew_; have HOA := Lib.hid ho; have HBA := Lib.hid hb; clear ho hb hg_ hnew_)
      | ((with_reducible refine gate_dst (N := 53) rfl ?_); refine Kd.R_append_rows (kH W0) (w0 := wz) wz.heap.size rfl (.tmp 49) (.tmp 52) tRs tR (.slice none 0 0) 24 rfl hu info39 rfl Nat.one_pos zq4 v49 [] (RS.take j) _ _ _ (fun _ => True) (fun _ => False) rfl rfl HOA.out ?aR (fun _ _ h => h) (fun _ h => h.elim) (fun _ _ => trivial) HBA.out HBA.out.size ?aL ?_; (case aR => have h := Kd.C_take (Kd.R_reads' (Kd.R_below HOZ.out HBA.out)).2.2 hj; rw [List.length_take, Nat.min_eq_left hj] at h; exact h); (case aL => rw [List.length_nil]; omega); intro v53 wb ho hb hg_ hnew_; have HOB := Lib.hid (show (kH W0).R tR wb wz.heap.size (fun _ => True) v53 (RS.take j) from ho); have HBB := Lib.hid hb; have xb := pw_cell_below hb HXZ.out; clear ho hb hg_ hnew_)
      | ((with_reducible refine gate_dst (N := 61) rfl ?_); at_builtin; refine Kd.R_append (kH W0) (w0 := wz) wz.heap.size rfl (.tmp 54) (.tmp 60) tRs tR (.slice none 0 0) 24 rfl hu info39 rfl Nat.one_pos zq4 v53 (RS.take j) X.f0 [.slice Ax X.f0.length cx] (fun _ => True) (fun _ => False) rfl rfl HXK.out (fun _ h => h.elim) (fun _ _ => trivial) HOB.out HBB.out HBB.out.size ?aL ?_; (case aL => rw [List.length_take]; omega); intro v61 wc ho hb hg_ hnew_; have HOC := Lib.hid ho; have HBC := Lib.hid hb; clear ho hb hg_ hnew_)
      | ((with_reducible refine gate_dst (N := 66) rfl ?_); refine Kd.R_append_rows (kH W0) (w0 := wz) wz.heap.size rfl (.tmp 62) (.tmp 65) tRs tR (.slice none 0 0) 24 rfl hu info39 rfl Nat.one_pos zq4 v61 (RS.take j ++ [X.f0]) (RS.drop j) _ _ _ (fun _ => True) (fun _ => False) rfl rfl HOC.out ?aR (fun _ _ h => h) (fun _ h => h.elim) (fun _ _ => trivial) HBC.out HBC.out.size ?aL ?_; (case aR => exact HDZ.out wc (Kd.R_reads' (Kd.R_below HOZ.out HBC.out)).2.2); (case aL => rw [List.length_append, List.length_take, List.length_singleton]; omega); intro v66 wd ho hb hg_ hnew_; have HOD := Lib.hid ho; have HBD := Lib.hid hb; clear ho hb hg_ hnew_))
     obtain ⟨AD, cD, rfl⟩ := Kd.R_slice HOD.out; go_roundw
     case rel => exact ⟨i + 1, AD, cD, by omega, by go_num, by rw [HNEW.out], ⟨by rw [HNEW.out]; exact Kd.R_lower HOD.out (Nat.le_trans HB.out.size HBZ.out.size)⟩, ⟨(HB.out.trans (HBZ.out.mono HB.out.size)).trans (HBD.out.mono (Nat.le_trans HB.out.size HBZ.out.size))⟩⟩
     case measure => simp [intOf]; omega
  ·obtain rfl : i = l.length := by omega
   rw [List.take_length, insR_eq] at HO ⊢; go_wp2; go_ret; exact ⟨_, rfl, HO.out, HB.out⟩
end Go.Proofs.YtmkgecapkeojaaaGreat.Eg
end
section
namespace Go.Proofs.YtmkgecapkeojaaaGreat.Eg
open Go.Proofs.YtmkgecapkeojaaaGreat Go.Proofs.YtmkgecapkeojaaaGreat.PDa
open Go.RowKit Go.Proofs.YtmkgecapkeojaaaGreatW.PrintWords Go.Proofs.YtmkgecapkeojaaaGreatW.PrintLast Go.Proofs.YtmkgecapkeojaaaGreatW.PrintMore
open Go.Proofs.YtmkgecapkeojaaaGreat.Stp Go.Proofs.YtmkgecapkeojaaaGreat.Run Go.Proofs.YtmkgecapkeojaaaGreat.Rw
def refL (g : List Jp → List Jp × Int) (out : List EdP) : List (List Vl × List Jp) → List EdP × Int
 | [] => if 4096 < out.length then ([], 7) else (out, 0)
 | x :: xs => if (g x.2).2 ≠ 0 then ([], (g x.2).2) else refL g (putP out x.1 (g x.2).1) xs
theorem putP_len (out : List EdP) (r : List Vl) (f : List Jp) : (putP out r f).length = out.length + f.length := by simp [putP]
theorem refL_full (g : List Jp → List Jp × Int) : ∀ (xs : List (List Vl × List Jp)) (out : List EdP), (∀ x ∈ xs, (g x.2).2 ≠ 0 → (g x.2).2 = 7) → 4096 < out.length → refL g out xs = ([], 7)
 | [], out, _, h => by rw [refL, if_pos h]
 | x :: xs, out, hx, h => by
  rw [refL]
  split
  ·rename_i c; rw [hx x List.mem_cons_self c]
  ·exact refL_full g xs _ (fun y hy => hx y (List.mem_cons_of_mem _ hy)) (by rw [putP_len]; omega)
theorem refL_map (g : List Jp → List Jp × Int) : ∀ (xs : List (List Vl × List Jp)) (out : List EdP), (∀ x ∈ xs, (g x.2).2 ≠ 0 → (g x.2).2 = 7) → out.length ≤ 4096 → refL g out xs = mapR g out xs
 | [], out, _, h => by rw [refL, if_neg zq4, mapR]
 | x :: xs, out, hx, h => by
  rw [refL, mapR]
  split
  ·rfl
  ·split
   ·rename_i c; exact refL_full g xs _ (fun y hy => hx y (List.mem_cons_of_mem _ hy)) c
   ·exact refL_map g xs _ (fun y hy => hx y (List.mem_cons_of_mem _ hy)) zq4
theorem refL_drop (g : List Jp → List Jp × Int) (out : List EdP) (gs : List (List Vl × List Jp)) (i : Nat) (h : i < gs.length) : refL g out (gs.drop i) = if (g gs[i].2).2 ≠ 0 then ([], (g gs[i].2).2) else refL g (putP out gs[i].1 (g gs[i].2).1) (gs.drop (i + 1)) := by
 rw [List.drop_eq_getElem_cons h, refL]
theorem argE_parts {x : EdP} (h : argE x = false) : rowMay x.f0 = true ∧ x.f2 ≤ 1048576 ∧ -1048576 ≤ x.f2 := by
 unfold argE at h; rw [Bool.or_eq_false_iff, Bool.or_eq_false_iff] at h; obtain ⟨h1, h2, h3⟩ := h; exact ⟨by simpa using h1, by have := of_decide_eq_false h2; omega, by have := of_decide_eq_false h3; omega⟩
theorem norm_seven (l : List EdP) (r : List Vl) (h : ∀ e ∈ l, argE e = false) (ht : ∀ e ∈ l, timeB e.f1 = false) : (normJ (jumpsOf l r)).2 ≠ 0 → (normJ (jumpsOf l r)).2 = 7 := by
 unfold normJ; have h1 : (jumpsOf l r).any (fun x => !fairB x.f1) = false := by
  rw [List.any_eq_false]; intro x hx; obtain ⟨e, he, rfl⟩ := List.mem_map.1 hx; have := argE_parts (h e (List.mem_filter.1 he).1); have : fairB (jmpE e).f1 = true := by
   show fairB e.f2 = true
   unfold fairB; rw [decide_eq_true this.2.1, decide_eq_true this.2.2]; rfl
  rw [this]; decide
 have h2 : (jumpsOf l r).any (fun x => timeB x.f0) = false := by
  rw [List.any_eq_false]; intro x hx; obtain ⟨e, he, rfl⟩ := List.mem_map.1 hx; rw [show timeB (jmpE e).f0 = false from ht e (List.mem_filter.1 he).1]; decide
 rw [if_neg (by rw [h1]; decide), if_neg (by rw [h2]; decide)]; unfold toldJ
 split <;> simp
theorem normV_ok (l : List EdP) (h : ∀ e ∈ l, argE e = false) (ht : ∀ e ∈ l, timeB e.f1 = false) : normV l = refL normJ [] (groups l) := by
 unfold normV; rw [if_neg (by rw [Bool.not_eq_true, List.any_eq_false]; intro e he; rw [h e he]; decide), if_neg (by rw [Bool.not_eq_true, List.any_eq_false]; intro e he; rw [ht e he]; decide)]; refine (refL_map normJ _ _ (fun x hx => ?_) zq30).symm; obtain ⟨r, _, rfl⟩ := List.mem_map.1 hx; exact norm_seven l r h ht
theorem rowsx_len (l : List EdP) : (rowsOf l).length ≤ l.length := by
 unfold rowsOf
 induction l with
 | nil => simp
 | cons e es ih =>
  rw [List.map_cons, List.foldr_cons]; have := rowIns_len e.f0 ((es.map (·.f0)).foldr rowIns []); simp only [List.length_cons]; omega
structure Hold2 (p : Prop) : Prop where
 out : p
theorem hold2 {p : Prop} (h : Hold2 p) : p := h.out
theorem refnorm_calls (A0 : Option Addr) (c0 : Nat) (l : List EdP) (w : World) (hr0 : Kd.C kE w A0 l.length l) (hc0 : l.length ≤ c0) (hl : l.length ≤ 1024) :
  Calls Tryz.prog 58 #[.slice A0 l.length c0] w fun e w' => ∃ v, e = .returned (.tuple #[v, .int .i64 (normV l).2]) ∧ Kd.R kE tE w' w.heap.size (fun _ => True) v (normV l).1 ∧ Below w.heap.size w w' := by
 have HR := Lib.hid hr0; have HC := Lib.hid hc0; have HL := Lib.hid hl; have MC := Lib.hid (fun (r : List Vl) (A : Option Addr) (c : Nat) (w1 : World) (hC : Kd.C kV w1 A r.length r) (hc : r.length ≤ c) => (EvP.mayR r).get.elim fun k hk => r06_May.calls k A c r _ w1 hC hc hk); clear hr0 hc0; go_enter Tryz.func58, Tryz.ntmps58; go_wp2
 go_loopw [4] (fun v4 wr => ∃ (i : Nat), i ≤ l.length ∧ v4 = .int .i64 (i : Int) ∧ Aside0 (∀ x ∈ l.take i, argE x = false) ∧ Aside0 (Below w.heap.size w wr)) (fun v4 wr => l.length - (intOf v4).toNat)
 case atStart => exact ⟨0, Nat.zero_le _, rfl, ⟨by simp⟩, ⟨Below.refl _ _⟩⟩
 case round =>
  obtain ⟨i, hi, rfl, HE, HB⟩ := hrel
  by_cases c : i < l.length
  ·obtain ⟨X, hX⟩ : ∃ X, l[i] = X := ⟨_, rfl⟩
   obtain ⟨ad, Ax, cx, e1, x0, x1, x2, x3, x4⟩ := at_T41 (Kd.C_below HR.out HB.out) (i : Int) zq4 zq4; rw [Int.toNat_natCast, rdE l i c, hX] at x0 x1 x2; rw [rdE l i c, hX] at x3 x4; cases e1; have MX := Lib.hid (MC.out X.f0 Ax cx wr x4 x3); have HX := Lib.hid hX; have HX2 := Lib.hid x2; have HL1 := Lib.hid (show l.take (i + 1) = l.take i ++ [X] by rw [List.take_add_one, List.getElem?_eq_getElem c, hX]; rfl); have HM := Lib.hid (show X ∈ l by rw [← hX]; exact List.getElem_mem c); clear x1 x2 x3 x4 hX
   go_wp2_with (go_at_call 69; refine hold2 ?_)
   refine ⟨?_⟩; refine MX.out.mono ?_; rintro e w1 ⟨rfl, hb1⟩; have z2 := pw_cell_below hb1 HX2.out; have HB1 := Lib.hid (HB.out.trans (hb1.mono HB.out.size)); clear MX hb1; cases hbad : argE X with
   | true =>
    have HV := Lib.hid (show normV l = ([], 2) by unfold normV; rw [if_pos (List.any_eq_true.2 ⟨X, HM.out, hbad⟩)]); cases hm : rowMay X.f0 with
    | false =>
     go_wp2; go_ret2; rw [HV.out]; exact ⟨_, rfl, Kd.R_nil _ _ _ _ _, HB1.out⟩
    | true =>
     unfold argE at hbad; rw [hm, Bool.not_true, Bool.false_or] at hbad
     by_cases c1 : X.f2 > 1048576
     ·have b1 : decide (X.f2 > 1048576) = true := decide_eq_true c1
      go_wp2; go_ret2; rw [HV.out]; exact ⟨_, rfl, Kd.R_nil _ _ _ _ _, HB1.out⟩
     ·have b1 : decide (X.f2 > 1048576) = false := decide_eq_false c1
      rw [b1, Bool.false_or] at hbad; go_wp2; go_ret2; rw [HV.out]; exact ⟨_, rfl, Kd.R_nil _ _ _ _ _, HB1.out⟩
   | false =>
    obtain ⟨hm, h1, h2⟩ := argE_parts hbad; have b1 : decide (X.f2 > 1048576) = false := decide_eq_false zq4; have b2 : decide (X.f2 < -1048576) = false := decide_eq_false zq4; rw [hm]; go_wp2; go_roundw
    case rel =>
     refine ⟨i + 1, by omega, by go_num, ⟨fun x hx => ?_⟩, ⟨HB1.out⟩⟩; rw [HL1.out, List.mem_append] at hx
     rcases hx with hx | hx
     ·exact HE.out x hx
     ·rw [List.mem_singleton] at hx; rw [hx]; exact hbad
    case measure => simp [intOf]; omega
  ·obtain rfl : i = l.length := by omega
   have HARG := Lib.hid (show ∀ x ∈ l, argE x = false by have := HE.out; rw [List.take_length] at this; exact this); have HBa := Lib.hid HB.out; clear HE HB; go_wp2
   go_loopw [5] (fun v5 wr => ∃ (i : Nat), i ≤ l.length ∧ v5 = .int .i64 (i : Int) ∧ Aside0 (∀ x ∈ l.take i, timeB x.f1 = false) ∧ Aside0 (Below w.heap.size w wr)) (fun v5 wr => l.length - (intOf v5).toNat)
   case atStart => exact ⟨0, Nat.zero_le _, rfl, ⟨by simp⟩, ⟨HBa.out⟩⟩
   case round =>
    obtain ⟨i, hi, rfl, HE, HB⟩ := hrel
    by_cases c : i < l.length
    ·obtain ⟨X, hX⟩ : ∃ X, l[i] = X := ⟨_, rfl⟩
     obtain ⟨ad, Ax, cx, e1, x0, x1, x2, x3, x4⟩ := at_T41 (Kd.C_below HR.out HB.out) (i : Int) zq4 zq4; rw [Int.toNat_natCast, rdE l i c, hX] at x0 x1 x2; cases e1; have HL1 := Lib.hid (show l.take (i + 1) = l.take i ++ [X] by rw [List.take_add_one, List.getElem?_eq_getElem c, hX]; rfl); have HM := Lib.hid (show X ∈ l by rw [← hX]; exact List.getElem_mem c); clear x0 x2 x3 x4 hX; have HV := Lib.hid (fun h : timeB X.f1 = true => show normV l = ([], 13) by
      unfold normV; rw [if_neg (by rw [Bool.not_eq_true, List.any_eq_false]; intro e he; rw [HARG.out e he]; decide), if_pos (List.any_eq_true.2 ⟨X, HM.out, h⟩)])
     by_cases c1 : X.f1 < -1
     ·have b1 : decide (X.f1 < -1) = true := decide_eq_true c1
      have HV2 := Lib.hid (HV.out (by unfold timeB; rw [b1]; rfl)); go_wp2; go_ret2; rw [HV2.out]; exact ⟨_, rfl, Kd.R_nil _ _ _ _ _, HB.out⟩
     ·have b1 : decide (X.f1 < -1) = false := decide_eq_false c1
      by_cases c2 : X.f1 > 1125899906842624
      ·have b2 : decide (X.f1 > 1125899906842624) = true := decide_eq_true c2
       have HV2 := Lib.hid (HV.out (by unfold timeB; rw [b1, b2]; rfl)); go_wp2; go_ret2; rw [HV2.out]; exact ⟨_, rfl, Kd.R_nil _ _ _ _ _, HB.out⟩
      ·have b2 : decide (X.f1 > 1125899906842624) = false := decide_eq_false c2
       have HT := Lib.hid (show timeB X.f1 = false by unfold timeB; rw [b1, b2]; rfl); clear HV; go_wp2; go_roundw
       case rel =>
        refine ⟨i + 1, by omega, by go_num, ⟨fun x hx => ?_⟩, ⟨HB.out⟩⟩; rw [HL1.out, List.mem_append] at hx
        rcases hx with hx | hx
        ·exact HE.out x hx
        ·rw [List.mem_singleton] at hx; rw [hx]; exact HT.out
       case measure => simp [intOf]; omega
    ·obtain rfl : i = l.length := by omega
     have HTM := Lib.hid (show ∀ x ∈ l, timeB x.f1 = false by have := HE.out; rw [List.take_length] at this; exact this); obtain ⟨wB, hwB⟩ : ∃ x, x = wr := ⟨_, rfl⟩
     rw [← hwB] at HB ⊢; clear hwB HE HBa; have HBB := Lib.hid HB.out; clear HB
     go_wp2_with (go_at_call 66; refine hold2 ?_)
     refine ⟨?_⟩; have HBC := Lib.hid (below_alloc (Below.refl _ wB) (.cells #[] tE (0, 0))); obtain ⟨wC, hwC⟩ : ∃ x, x = wB.alloc (.cells #[] tE (0, 0)) := ⟨_, rfl⟩
     have hsC : wC.heap.size = wB.heap.size + 1 := by rw [hwC, World.size_alloc]
     have hoC : Kd.R kE tE wC wB.heap.size (fun _ => True) (.slice (some ⟨wB.heap.size, 0, none⟩) 0 0) [] := ⟨fun _ _ => trivial, [], ⟨rfl, .inr ⟨wB.heap.size, 0, #[], rfl, Nat.le_refl _, by rw [hwC]; exact blk_new wB _, Nat.le_refl _, Nat.zero_le _, rfl, rfl⟩⟩, Reps.none _ _⟩
     rw [← hwC] at HBC ⊢; clear hwC; have HSC := Lib.hid hsC; have HOC := Lib.hid hoC; clear hsC hoC; refine (hrows_calls A0 c0 l w wC HR.out (HBB.out.trans (HBC.out.mono HBB.out.size)) (by have := HL.out; omega) (fun e he => (argE_parts (HARG.out e he)).1)).mono ?_; rintro e w1 ⟨vr, rfl, hN, hb1⟩; obtain ⟨Ar, cr, rfl⟩ := Kd.R_slice hN; obtain ⟨RS, hRS⟩ : ∃ z, rowsOf l = z := ⟨_, rfl⟩
     rw [hRS] at hN ⊢; have HRS := Lib.hid hRS; have HF1 := Lib.hid hN; have HB1 := Lib.hid ((HBB.out.trans (HBC.out.mono HBB.out.size)).trans (hb1.mono (by have := HBB.out.size; have := HSC.out; omega))); have HOW := Lib.hid (Kd.R_lower (Kd.R_below HOC.out hb1) HBB.out.size); have HSZ := Lib.hid hb1.size; have HGR := Lib.hid (show groups l = RS.map fun r => (r, jumpsOf l r) by unfold groups; rw [hRS]); have HRL := Lib.hid (show RS.length ≤ 1024 by
      have h1 := rowsx_len l; rw [hRS] at h1; have := HL.out; omega)
     have HRM := Lib.hid (show ∀ r ∈ RS, rowMay r = true by
      intro r hr; rw [← hRS, rowsOf_mem] at hr; obtain ⟨e, he, rfl⟩ := hr; exact (argE_parts (HARG.out e he)).1)
     clear hN hb1 hRS; go_wp2
     go_loopw [6, 8] (fun v6 v8 wr => ∃ (i : Nat) (out : List EdP) (A6 : Option Addr) (c6 : Nat), i ≤ RS.length ∧ v8 = .int .i64 (i : Int) ∧ v6 = .slice A6 out.length c6 ∧ Aside0 (Kd.R kE tE wr w.heap.size (fun _ => True) (.slice A6 out.length c6) out) ∧ Aside0 (Below w.heap.size w wr) ∧ Aside0 (w1.heap.size ≤ wr.heap.size) ∧
      Aside0 (∀ k, (((k < wB.heap.size ∨ wC.heap.size ≤ k) ∧ k < w1.heap.size) → wr.heap[k]? = w1.heap[k]?)) ∧ Aside0 (∀ b, (Value.slice A6 out.length c6).ownBlock = some b → (wB.heap.size ≤ b ∧ b < wC.heap.size) ∨ w1.heap.size ≤ b) ∧
      Aside0 (refL normJ [] (groups l) = refL normJ out ((groups l).drop i)) ∧ Aside0 (out.length ≤ 1000000000 * i)) (fun v6 v8 wr => RS.length - (intOf v8).toNat)
     case atStart => exact ⟨0, [], _, _, Nat.zero_le _, rfl, rfl, ⟨HOW.out⟩, ⟨HB1.out⟩, ⟨Nat.le_refl _⟩, ⟨fun _ _ => rfl⟩, ⟨fun b hb => by injection hb with hb; have hb' : wB.heap.size = b := hb; have := HSC.out; exact .inl ⟨by omega, by omega⟩⟩, ⟨by rw [List.drop_zero]⟩, ⟨Nat.le_refl _⟩⟩
     case round =>
      clear HBB HBC HOC HOW HB1 MC; obtain ⟨i, out, A6, c6, hi, rfl, rfl, HO, HB, HSW, HKP, HOB, HEQ, HLN⟩ := hrel
      by_cases c : i < RS.length
      ·have HFr := Lib.hid (Kd.R_step (Kd.R_tight rfl HF1.out) (fun k hk hlt => HKP.out k ⟨.inr (Kd.R_base HF1.out k hk.symm), hlt⟩))
       obtain ⟨r, hr⟩ : ∃ r, RS[i] = r := ⟨_, rfl⟩
       obtain ⟨ad, Ax, cx, hA, x0, hxl, hx0⟩ := at_H (Kd.R_reads' HFr.out).2.2 i r (by rw [List.getElem?_eq_getElem c, hr]); cases hA; have hxC := Kd.C_below hx0 HB.out; have HROW := Lib.hid (Kd.C_F k65_heap hx0); have HXC := Lib.hid hxC; have HXL := Lib.hid hxl; have HX0 := Lib.hid x0; have HRMi := Lib.hid (HRM.out r (by rw [← hr]; exact List.getElem_mem c)); have hgi : i < (groups l).length := by rw [HGR.out, List.length_map]; exact c
       have hgx : (groups l)[i] = (r, jumpsOf l r) := by
        have : (groups l)[i]? = some (r, jumpsOf l r) := by rw [HGR.out, List.getElem?_map, List.getElem?_eq_getElem c, hr]; rfl
        rw [List.getElem?_eq_getElem hgi] at this; exact Option.some.inj this
       have HST := Lib.hid (show refL normJ [] (groups l) = if (normJ (jumpsOf l r)).2 ≠ 0 then ([], (normJ (jumpsOf l r)).2) else refL normJ (putP out r (normJ (jumpsOf l r)).1) ((groups l).drop (i + 1)) by
        rw [HEQ.out, refL_drop normJ out (groups l) i hgi, hgx])
       obtain ⟨kj, hkj⟩ := (jumps10 l r (fun e he => by have := may_len (argE_parts (HARG.out e he)).1; omega) (by have := HL.out; omega)).get; obtain ⟨kn, hkn⟩ := (norm09 (jumpsOf l r) (by have := jumpsOf_len l r; have := HL.out; omega)).get; have JC := Lib.hid (r10_Jumps.calls kj A0 c0 l Ax cx r (jumpsOf l r) wr (Kd.C_below HR.out HB.out) HC.out hxC hxl hkj); have HKN := Lib.hid hkn; have pI : (0 ≤ (i : Int)) = True := eq_true zq4; have qI : ((i : Int) < (RS.length : Int)) = True := eq_true zq4; clear hx0 hxC hxl hkj hkn HFr hgi hgx hr
       go_wp2_with (go_at_call 26; refine hold2 ?_)
       refine ⟨?_⟩; refine JC.out.mono ?_; rintro e w2 ⟨vj, rfl, hRj, hb2⟩; obtain ⟨Aj, cj, rfl⟩ := Kd.R_slice hRj; have NC := Lib.hid (r09_Norm.calls kn Aj cj (jumpsOf l r) (normJ (jumpsOf l r)).1 (normJ (jumpsOf l r)).2 w2 (Kd.R_reads' hRj).2.2 (Kd.R_reads' hRj).2.1 HKN.out); have HB2 := Lib.hid hb2; clear hRj hb2 JC HKN x0
       go_wp2_with (go_at_call 93; refine hold2 ?_)
       refine ⟨?_⟩; refine NC.out.mono ?_; rintro e w3 ⟨vf, rfl, hRf, hb3⟩; obtain ⟨Af, cf, rfl⟩ := Kd.R_slice hRf; have HB3 := Lib.hid (HB2.out.trans (hb3.mono HB2.out.size)); have HRF := Lib.hid hRf; have z0 := pw_cell_below HB3.out HX0.out; have HBw3 := Lib.hid (HB.out.trans (HB3.out.mono HB.out.size)); clear NC hRf hb3 HB2; obtain ⟨fe, hfe⟩ : ∃ z, (normJ (jumpsOf l r)).2 = z := ⟨_, rfl⟩
       obtain ⟨ff, hff⟩ : ∃ z, (normJ (jumpsOf l r)).1 = z := ⟨_, rfl⟩
       have HFL := Lib.hid (show ff.length ≤ 1000000000 by rw [← hff]; exact normJ_len _); rw [hfe, hff] at HST; rw [hff] at HRF; rw [hfe, hff]
       by_cases ce : fe = 0
       ·subst ce
        have HST2 := Lib.hid (show refL normJ [] (groups l) = refL normJ (putP out r ff) ((groups l).drop (i + 1)) by rw [HST.out, if_neg zq30]); have PC := Lib.hid (refput_calls w.heap.size (fun _ => True) (.slice A6 out.length c6) out Ax cx r Af cf ff w3 (Kd.R_below HO.out HB3.out) HBw3.out.size (fun _ _ => trivial) (fun k => k < w.heap.size)
         (fun w4 h => HROW.out w4 (fun k hk _ => (h k hk).trans (HBw3.out.block k hk))) (fun k hk => ⟨Nat.lt_of_lt_of_le hk HBw3.out.size, fun e' => by have := Kd.R_base HO.out k e'.symm; omega⟩) (Kd.R_lower HRF.out (Nat.zero_le _)) (by have := may_len HRMi.out; omega) (by have := HLN.out; have := HFL.out; have := HRL.out; omega))
        clear HST hfe hff HROW HXC HXL HRF; have hwr := wrapN i (by have := HRL.out; omega)
        go_wp2_with (go_at_call 68; refine hold2 ?_)
        refine ⟨?_⟩; refine PC.out.mono ?_; rintro e w4 ⟨vp, rfl, hRp, hgr, hat⟩; obtain ⟨Ap, cp, rfl⟩ := Kd.R_slice hRp; have HRP := Lib.hid hRp; have HGRW := Lib.hid hgr; have HAT := Lib.hid hat; clear hRp hgr hat PC; go_wp2; go_roundw
        case rel =>
         refine ⟨i + 1, putP out r ff, _, _, by omega, by rw [hwr], rfl, ⟨HRP.out⟩, ⟨?_⟩, ⟨?_⟩, ⟨?_⟩, ⟨?_⟩, ⟨HST2.out⟩, ⟨?_⟩⟩
         ·exact pw_below_grown HBw3.out _ HBw3.out.size HGRW.out (fun k hk => Kd.R_base HO.out k hk)
         ·have := HSW.out; have := HB3.out.size; have := HGRW.out.size; omega
         ·intro k hk
          have h1 := HKP.out k hk; have h2 := HB3.out.block k (by have := HSW.out; omega); have h3 := HGRW.out.block k (by have := HSW.out; have := HB3.out.size; omega) (fun e' => by have := HOB.out k e'.symm; omega); rw [h3, h2, h1]
         ·intro b hb
          rcases HAT.out with h | ⟨g, hg, hle⟩
          ·rw [h] at hb; exact HOB.out b hb
          ·rw [hg] at hb; injection hb with hb; have := HSW.out; have := HB3.out.size; exact .inr zq4
         ·have h1 := HLN.out; have h2 := HFL.out; rw [putP_len]; omega
        case measure => rw [hwr]; simp [intOf]; omega
       ·have HV := Lib.hid (show normV l = ([], fe) by rw [normV_ok l HARG.out HTM.out, HST.out, if_pos ce])
        have b1 : (fe == 0) = false := beq_eq_false_iff_ne.mpr ce; have b2 : (fe != 0) = true := bne_iff_ne.mpr ce; clear HST hfe hff HROW HXC HXL HRF; go_wp2; go_ret2; rw [HV.out]; exact ⟨_, rfl, Kd.R_nil _ _ _ _ _, HBw3.out⟩
      ·obtain rfl : i = RS.length := by omega
       have HV := Lib.hid (show normV l = if 4096 < out.length then ([], 7) else (out, 0) by
        rw [normV_ok l HARG.out HTM.out, HEQ.out, HGR.out, List.drop_eq_nil_of_le (by rw [List.length_map]; exact Nat.le_refl _), refL])
       by_cases c2 : 4096 < out.length
       ·have b1 : decide ((out.length : Int) > 4096) = true := decide_eq_true zq4
        go_wp2; go_ret2; rw [HV.out, if_pos c2]; exact ⟨_, rfl, Kd.R_nil _ _ _ _ _, HB.out⟩
       ·have b1 : decide ((out.length : Int) > 4096) = false := decide_eq_false zq4
        go_wp2; go_ret2; rw [HV.out, if_neg c2]; exact ⟨_, rfl, HO.out, HB.out⟩
end Go.Proofs.YtmkgecapkeojaaaGreat.Eg
end
section
namespace Go.Proofs.YtmkgecapkeojaaaGreat.Eg
open Go.Proofs.YtmkgecapkeojaaaGreat Go.Proofs.YtmkgecapkeojaaaGreat.PDa
open Go.RowKit Go.Proofs.YtmkgecapkeojaaaGreatW.PrintWords Go.Proofs.YtmkgecapkeojaaaGreatW.PrintLast Go.Proofs.YtmkgecapkeojaaaGreatW.PrintMore
open Go.Proofs.YtmkgecapkeojaaaGreat.Stp Go.Proofs.YtmkgecapkeojaaaGreat.Rw Go.Proofs.YtmkgecapkeojaaaGreat.Canon
open Go.Proofs.YtmkgecapkeojaaaGreat.EvP (U XOk evalV formV)
theorem thO_ok (v : Th) (h : EvP.VOk v) : (thOf (thVal3 v).1 (thVal3 v).2.1 (thVal3 v).2.2).isSome = true := by
 have nilT : (⟨#[]⟩ : ByteArray).toList = [] := (toList_nil_iff_emptyBytes _).2 rfl; cases v with
 | num n => simp [thVal3, thOf, nilT]
 | txt s =>
  have h' : s.size ≤ 64 := h; simp [thVal3, thOf, h']
theorem evalV_good (x : List Op8) (row : List Vl) (h : XOk x row) (hm : rowMay row = true) (he : (evalV x row).2.2.2 = 0) : (thOf (evalV x row).1 (evalV x row).2.1 (evalV x row).2.2.1).isSome = true := by
 by_cases h0 : ¬ formV x = 0
 ·have e : evalV x row = (0, 0, ⟨#[]⟩, formV x) := by unfold evalV; rw [if_pos h0]
  rw [e] at he; exact absurd he h0
 replace h0 : formV x = 0 := Decidable.not_not.mp h0; obtain ⟨t, ht, rfl, hl⟩ := EvP.formV_0 h0; rw [EvP.evalV_T t ht row h0 hm] at he ⊢; have hg := EvP.good_ev row ⟨hm, h.row⟩ t ht h.x; cases e : t.ev row with
 | error c => rw [e] at hg he; exact absurd he hg
 | ok v => rw [e] at hg; exact thO_ok v hg
theorem projR_good (row : List Vl) (hm : rowMay row = true) : ∀ (xs : List (List Op8)) (out : List Vl), (∀ x ∈ xs, XOk x row) → (∀ v ∈ out, (thOf v.f0 v.f1 v.f2).isSome = true) → (projR evalV row out xs).2 = 0 →
  (projR evalV row out xs).1.length = out.length + xs.length ∧ ∀ v ∈ (projR evalV row out xs).1, (thOf v.f0 v.f1 v.f2).isSome = true
 | [], out, _, ho, _ => by rw [projR]; exact ⟨by simp, ho⟩
 | x :: xs, out, hx, ho, he => by
  rw [projR] at he ⊢
  by_cases c : (evalV x row).2.2.2 ≠ 0
  ·rw [if_pos c] at he; exact absurd he c
  ·rw [if_neg c] at he ⊢
   obtain ⟨h1, h2⟩ := projR_good row hm xs _ (fun y hy => hx y (List.mem_cons_of_mem _ hy)) (fun v hv => by
    rw [List.mem_append, List.mem_singleton] at hv
    rcases hv with hv | rfl
    ·exact ho v hv
    ·exact evalV_good x row (hx x List.mem_cons_self) hm (by simpa using c)) he
   exact ⟨by rw [h1]; simp; omega, h2⟩
theorem made_may (row : List Vl) (hm : rowMay row = true) (xs : List (List Op8)) (hx : ∀ x ∈ xs, XOk x row) (hl : xs.length ≤ 8) (he : (projR evalV row [] xs).2 = 0) : rowMay (projR evalV row [] xs).1 = true := by
 obtain ⟨h1, h2⟩ := projR_good row hm xs [] hx zq30 he; unfold rowMay; rw [Bool.and_eq_true]; exact ⟨decide_eq_true (by rw [h1]; simpa using hl), List.all_eq_true.2 h2⟩
def madeL (mk : List Vl → List Vl × Int) (out : List EdP) : List EdP → List EdP × Int
 | [] => (out, 0)
 | e :: es => if (mk e.f0).2 ≠ 0 then ([], (mk e.f0).2) else madeL mk (out ++ [⟨(mk e.f0).1, e.f1, e.f2⟩]) es
theorem bec_run (mk : List Vl → List Vl × Int) : ∀ (es : List EdP) (out : List EdP) (r : List Vl) (js : List Jp), (∀ x ∈ runAt r js es, ((mk x.1).2 = 0 → rowMay (mk x.1).1 = true) ∧ mayJ x.2 = true) →
  becR mk out (runAt r js es) = if (mk r).2 ≠ 0 then ([], (mk r).2) else madeL mk (out ++ putP [] (mk r).1 js) es
 | [], out, r, js, h => by
  have h1 := h (r, js) (by simp [runAt]); simp only [runAt, becR, madeL]
  split
  ·rfl
  ·rename_i c
   have hb : buildP (mk r).1 js = putP [] (mk r).1 js := by unfold buildP; rw [h1.1 (by simpa using c), h1.2]; rfl
   rw [hb]
 | e :: es, out, r, js, h => by
  rw [runAt] at h ⊢
  by_cases he : eqR e.f0 r = true
  ·rw [if_pos he] at h ⊢
   rw [bec_run mk es out r _ h]; have e1 : e.f0 = r := (eqR_iff _ _).1 he
   by_cases h2 : (mk r).2 ≠ 0
   ·rw [if_pos h2, if_pos h2]
   ·rw [if_neg h2, if_neg h2, madeL, e1, if_neg h2, List.append_assoc]
    congr 2
    unfold putP; rw [List.nil_append, List.nil_append, List.map_append]
    rfl
  ·rw [if_neg he] at h ⊢
   have h1 := h (r, js) List.mem_cons_self; have ih := fun o => bec_run mk es o e.f0 [jmpE e] (fun x hx => h x (List.mem_cons_of_mem _ hx))
   simp only [becR]
   by_cases h2 : (mk r).2 ≠ 0
   ·rw [if_pos h2, if_pos h2]
   ·have hb : buildP (mk r).1 js = putP [] (mk r).1 js := by unfold buildP; rw [h1.1 (by simpa using h2), h1.2]; rfl
    rw [if_neg h2, if_neg h2, ih, madeL, hb]
    rfl
theorem bec_all (mk : List Vl → List Vl × Int) (l : List EdP) (h : mayE l = true) (hmk : ∀ r, rowMay r = true → (∃ e ∈ l, e.f0 = r) → (mk r).2 = 0 → rowMay (mk r).1 = true) : becR mk [] (runsP l) = madeL mk [] l := by
 have ha := mayE_all h; have hin : ∀ x ∈ runsP l, ∃ e ∈ l, e.f0 = x.1 := fun x hx => by obtain ⟨e, he, h1⟩ := (runs_mem l x hx).1; exact ⟨e, he, h1.symm⟩
 cases l with
 | nil => rfl
 | cons e es =>
  rw [runsP] at ha hin ⊢; rw [bec_run mk es [] e.f0 [jmpE e] (fun x hx => ⟨hmk x.1 (ha x hx).1 (hin x hx), (ha x hx).2⟩), madeL]
  rfl
def projD (xs : List (List Op8)) (l : List EdP) : List EdP × Int :=
 if mayE l = true then (if 8 < xs.length then ([], 6) else if formAll formV xs ≠ 0 then ([], formAll formV xs) else if (madeL (fun row => projR evalV row [] xs) [] l).2 ≠ 0 then ([], (madeL (fun row => projR evalV row [] xs) [] l).2) else normV (madeL (fun row => projR evalV row [] xs) [] l).1) else ([], 2)
theorem projD_is (xs : List (List Op8)) (l : List EdP) (hx : ∀ x ∈ xs, EOk x l) : projV evalV formV xs l = projD xs l := by
 unfold projV projD
 by_cases h : mayE l = true
 ·rw [if_pos h, if_pos h]
  by_cases h1 : 8 < xs.length
  ·rw [if_pos h1, if_pos h1]
  ·rw [if_neg h1, if_neg h1]
   unfold becV; rw [bec_all _ l h (fun r hr ⟨e, he, e1⟩ h0 => made_may r hr xs (fun x hx' => by rw [← e1]; exact hx x hx' e he) zq4 h0)]
 ·rw [if_neg h, if_neg h]
end Go.Proofs.YtmkgecapkeojaaaGreat.Eg
end
section
namespace Go.Proofs.YtmkgecapkeojaaaGreat.Eg
open Go.Proofs.YtmkgecapkeojaaaGreat Go.Proofs.YtmkgecapkeojaaaGreat.PDa
open Go.RowKit Go.Proofs.YtmkgecapkeojaaaGreatW.PrintWords Go.Proofs.YtmkgecapkeojaaaGreatW.PrintLast Go.Proofs.YtmkgecapkeojaaaGreatW.PrintMore
open Go.Proofs.YtmkgecapkeojaaaGreat.Stp Go.Proofs.YtmkgecapkeojaaaGreat.Rw Go.Proofs.YtmkgecapkeojaaaGreat.SortM
def chainA (l : List EdP) : Nat → Bool
 | 0 => chain0 l
 | i + 1 => match l[i]? with
  | some p => chainB p (l.drop (i + 1))
  | none => true
theorem chainA_0 (l : List EdP) (h : 0 < l.length) : chainA l 0 = (okE l[0] && chainA l 1) := by
 cases l with
 | nil => simp at h
 | cons e es => rfl
theorem chainA_1 (l : List EdP) (i : Nat) (h : i + 1 < l.length) : chainA l (i + 1) = (okE l[i + 1] && stepB l[i] l[i + 1] && chainA l (i + 2)) := by
 simp only [chainA]; rw [List.getElem?_eq_getElem (show i < l.length by omega), List.getElem?_eq_getElem h, List.drop_eq_getElem_cons h]
 rfl
theorem chainA_end (l : List EdP) : chainA l l.length = true := by
 cases h : l.length with
 | zero => rw [List.eq_nil_of_length_eq_zero h]; rfl
 | succ n =>
  simp only [chainA]; rw [List.getElem?_eq_getElem (show n < l.length by omega), List.drop_eq_nil_of_le zq4]
  rfl
def hmy.T6 : Bool × List (List Nat × List Nat) := (true, [([], []), ([], []), ([0, 1], [0, 1]), ([2], [2]), ([3], [3]), ([4], [4]), ([5], [5]), ([6, 5], [6]), ([7], [7]), ([7], [7]), ([8, 9, 7], [7, 8, 9]), ([10, 7], [7, 10]), ([11, 7], [7, 11]), ([7], [7]), ([7], [7]), ([13, 14, 7], [7, 13, 14]), ([15, 7], [7, 15]), ([16, 7], [7, 16]), ([12, 17, 7], [7, 12, 17]), ([18, 7], [7, 18]), ([19, 7, 7], [7, 19]), ([20, 7], [7, 20]), ([7, 21], [7, 21])])
def hmy.B6 : List Nat := [0, 0, 3, 7, 15, 31, 63, 127, 255, 255, 1023, 2047, 4095, 255, 255, 24831, 57599, 123135, 262143, 524287, 1048575, 2097151, 4194303]
theorem hmy.tab6 : rtab .any (opsOf Tryz.f50 6) = hmy.T6 := by kernel_rfl
theorem hmy.bits6 : waitsOk hmy.T6.2 hmy.B6 = true := by kernel_rfl
theorem hmay_calls (A0 : Option Addr) (c0 : Nat) (l : List EdP) (w : World) (hr0 : Kd.C kE w A0 l.length l) (hc0 : l.length ≤ c0) (hl : l.length ≤ 1024) (hrow : ∀ e ∈ l, e.f0.length ≤ 4398046511104) :
  Calls Tryz.prog 50 #[.slice A0 l.length c0] w fun e w' => e = .returned (.bool (mayE l)) ∧ Below w.heap.size w w' := by
 have HR := Lib.hid hr0; have HC := Lib.hid hc0; have HL := Lib.hid hl; have HRW := Lib.hid hrow; have HM := Lib.hid (show mayE l = chainA l 0 from mayE_chain l hl); clear hr0 hc0 hrow; go_enter Tryz.func50, Tryz.ntmps50; have b0 : decide ((l.length : Int) > 4096) = false := decide_eq_false zq4; clear hl; go_wp2; clear b0
 go_loopw [3] (fun v3 wr => ∃ (i : Nat), i ≤ l.length ∧ v3 = .int .i64 (i : Int) ∧ Aside0 (mayE l = chainA l i) ∧ Aside0 (∀ e ∈ l.take i, rowMay e.f0 = true) ∧ Aside0 (Below w.heap.size w wr)) (fun v3 wr => l.length - (intOf v3).toNat)
 case atStart => exact ⟨0, Nat.zero_le _, rfl, ⟨HM.out⟩, ⟨by simp⟩, ⟨Below.refl _ _⟩⟩
 case round =>
  clear HM; obtain ⟨i, hi, rfl, HEQ, HOK, HB⟩ := hrel; have hll := HL.out
  by_cases c : i < l.length
  ·obtain ⟨X, hX⟩ : ∃ X, l[i] = X := ⟨_, rfl⟩
   obtain ⟨ad, Ax, cx, e1, x0, x1, x2, x3, x4⟩ := at_T41 (Kd.C_below HR.out HB.out) (i : Int) zq4 zq4; rw [Int.toNat_natCast, rdE l i c, hX] at x0 x1 x2; rw [rdE l i c, hX] at x3 x4; cases e1; obtain ⟨P, hP⟩ : ∃ P, (0 < i → l[i - 1]? = some P) := by
    by_cases h0 : 0 < i
    ·exact ⟨l[i - 1], fun _ => List.getElem?_eq_getElem zq4⟩
    ·exact ⟨X, fun h => absurd h h0⟩
   have HST := Lib.hid (show mayE l = (okE X && (decide (i = 0) || stepB P X) && chainA l (i + 1)) by
    rw [HEQ.out]; cases i with
    | zero => rw [chainA_0 l c, hX]; simp
    | succ n =>
     have h := hP zq4; rw [Nat.add_sub_cancel, List.getElem?_eq_getElem (show n < l.length by omega)] at h; injection h with h
     rw [chainA_1 l n c, hX, h]; simp)
   have HTK := Lib.hid (show l.take (i + 1) = l.take i ++ [X] by rw [List.take_add_one, List.getElem?_eq_getElem c, hX]; rfl); obtain ⟨km, hkm⟩ := (EvP.mayR X.f0).get; have MX := Lib.hid (fun (W : World) (h : Below wr.heap.size wr W) => r06_May.calls km Ax cx X.f0 _ W (Kd.C_below x4 h) x3 hkm); have X0 := Lib.hid (fun (W : World) (h : Below wr.heap.size wr W) => pw_cell_below h x0); have X1 := Lib.hid (fun (W : World) (h : Below wr.heap.size wr W) => pw_cell_below h x1); have X2 := Lib.hid (fun (W : World) (h : Below wr.heap.size wr W) => pw_cell_below h x2); have XC := Lib.hid x4; have XL := Lib.hid x3; have HP := Lib.hid hP; have pI : (0 ≤ (i : Int)) = True := eq_true zq4; have qI : ((i : Int) < (l.length : Int)) = True := eq_true zq4; have hrx : X.f0.length ≤ 4398046511104 := HRW.out X (by rw [← hX]; exact List.getElem_mem c); clear x0 x1 x2 x3 x4 hkm hX hP; cases hm : rowMay X.f0 with
   | false =>
    have HV := Lib.hid (show mayE l = false by rw [HST.out, show okE X = false by unfold okE; rw [hm]; rfl]; rfl); rw [hm] at MX; have x0' := fun p : BelowOf wr => X0.out p.W p.h
    go_wp2; refine wp_region_quiet_below zq17 zq17 ?_
    repeat (go_big_quiet_step (exact below_calls (MX.out _ (BelowOf.h _))))
    refine wpQuiet_nil ?_; intro wq hw1; have HBQ := Lib.hid (show Below wr.heap.size wr wq by obtain ⟨p, rfl⟩ := hw1; exact p.h); clear hw1 x0'; go_wp2; go_ret; exact ⟨by rw [HV.out]; rfl, HB.out.trans (HBQ.out.mono HB.out.size)⟩
   | true =>
    rw [hm] at MX; have hj9 := may09_one ⟨X.f1, X.f2⟩; obtain ⟨mj, hmj⟩ : ∃ b, mayJ [(⟨X.f1, X.f2⟩ : Jp)] = b := ⟨_, rfl⟩
    rw [hmj] at hj9; have HOKE := Lib.hid (show okE X = mj by unfold okE; rw [hm, ← hmj]; rfl); obtain ⟨k9, hk9⟩ := hj9.get; have HK9 := Lib.hid hk9; clear hk9 hmj; obtain ⟨wA, hwA⟩ : ∃ x, x = wr := ⟨_, rfl⟩
    go_wp2; have HBB := below_drew1 (Below.refl wr.heap.size wr); have b0 := X0.out _ HBB; have b1 := X1.out _ HBB; have b2 := X2.out _ HBB; refine start_ (n := 23) (S := fun w' => Below wr.heap.size wr w' ∧ w'.cell? (ad.add (i * 3)) = some (.slice Ax X.f0.length cx) ∧ w'.cell? ⟨(ad.add (i * 3)).block, (ad.add (i * 3)).off + 1, none⟩ = some (.int .i64 X.f1) ∧ w'.cell? ⟨(ad.add (i * 3)).block, (ad.add (i * 3)).off + 2, none⟩ = some (.int .i64 X.f2)) (ds := []) #[false, false, false, false, false, false, false, false, false, false, false, false, false, false, false, false, false, false, false, false, false, false, false] zq17 rfl rfl ⟨HBB, b0, b1, b2⟩ (fun hHeld => ?_); refine with_tabW hmy.tab6 hmy.bits6 (fun HT_ HW_ => ?_); refine pZ 0 16 ?_; refine pZ 1 17 ?_; refine pZ 2 18 ?_; refine pZ 3 19 ?_; refine tZ4 4 20 ?_; refine oZ 5 21 (fun K hK => ?_); refine goes_ Tryz.func69 zq17 rfl #[.slice Ax X.f0.length cx] (by rfl) rfl rfl zq67 ?_
    with_reducible refine (MX.out _ hHeld.1).mono ?_
    rintro e w5 ⟨rfl, hb5⟩; refine ⟨_, rfl, ?_⟩; have hb6 := hHeld.1.trans (hb5.mono hHeld.1.size); refine hK.out _ _ ⟨hb6, X0.out _ hb6, X1.out _ hb6, X2.out _ hb6⟩ (fun hHeld => ?_); clear hK K; refine nZ 21 ?_; refine pZ 6 22 ?_; refine pZ 7 23 ?_; refine pZ 8 24 ?_; refine pZ 9 25 ?_; refine pZ 10 26 ?_; refine pZ 11 27 ?_; refine pZ 13 29 ?_; refine pZ 14 30 ?_; refine pZ 15 31 ?_; refine pZ 16 32 ?_; refine tZ4 12 28 ?_; refine tZ4 17 33 ?_; refine pZ 18 34 ?_; refine oZ 19 35 (fun K hK => ?_); refine Kd.R_lit_step kJp _ tJ ?hg (N := 35) ?hd (xs := [(⟨X.f1, X.f2⟩ : Jp)]) (inner := [.int .i64 X.f1, .int .i64 X.f2]) (ok := fun _ => True) (okp := fun _ => True) ?hr ?hp (fun _ hk => hk) trivial (Below.refl _ _) (Nat.le_refl _) zq30 ?_
    case hd => rfl
    case hg => rfl
    case hr => first | (go_simp; done) | (go_simp; rfl)
    case hp => exact Reps.c2 (k85_mkM _ _ _ ⟨X.f1, X.f2⟩) (Reps.none _ _)
    intro vl w3 hRl hbl hgl hnl; obtain ⟨Al, cl, rfl⟩ := Kd.R_slice hRl; have HRL3 := Lib.hid (Kd.R_reads' hRl); have hb7 := hHeld.1.trans (hbl.mono hHeld.1.size); clear hRl hgl hnl; refine hK.out _ _ ⟨hb7, X0.out _ hb7, X1.out _ hb7, X2.out _ hb7⟩ (fun hHeld => ?_); clear hK K; refine nZ 35 ?_; refine oZ 20 36 (fun K hK => ?_); refine goes_ Tryz.func79 zq17 rfl #[.slice Al ([⟨X.f1, X.f2⟩] : List Jp).length cl] (by rfl) rfl rfl zq67 ?_
    with_reducible refine (r09_May.calls k9 Al cl [⟨X.f1, X.f2⟩] _ _ (Kd.C_below HRL3.out.2.2 (Below.refl _ _)) HRL3.out.2.1 HK9.out).mono ?_
    rintro e w9 ⟨rfl, hb9⟩; refine ⟨_, rfl, ?_⟩; have hb8 := hHeld.1.trans (hb9.below.mono hHeld.1.size); have HBQ := Lib.hid hb8; refine hK.out _ _ ⟨hb8, X0.out _ hb8, X1.out _ hb8, X2.out _ hb8⟩ (fun hHeld => ?_); clear hK K; refine nZ 36 ?_; refine pZ 21 37 ?_; refine pZ 22 38 ?_; refine done_ (done_of HT_.out zq17) ?_; cases mj with
    | false =>
     have HV := Lib.hid (show mayE l = false by rw [HST.out, HOKE.out]; rfl); go_wp2; go_ret; exact ⟨by rw [HV.out]; rfl, HB.out.trans (HBQ.out.mono HB.out.size)⟩
    | true =>
     rw [HOKE.out, Bool.true_and] at HST; have HOKN := Lib.hid (show ∀ e ∈ l.take (i + 1), rowMay e.f0 = true by
      intro e he; rw [HTK.out, List.mem_append] at he
      rcases he with he | he
      ·exact HOK.out e he
      ·rw [List.mem_singleton] at he; rw [he]; exact hm)
     have HBN := Lib.hid (HB.out.trans (HBQ.out.mono HB.out.size)); clear HOKE HK9 MX HTK
     by_cases h0 : i = 0
     ·subst h0
      have HEN := Lib.hid (show mayE l = chainA l (0 + 1) by rw [HST.out, decide_eq_true rfl, Bool.true_or, Bool.true_and]); go_wp2; go_roundw
      case rel => exact ⟨0 + 1, by omega, by go_num, ⟨HEN.out⟩, ⟨HOKN.out⟩, ⟨HBN.out⟩⟩
      case measure => simp [intOf]; omega
     ·have bz : ((i : Int) == 0) = false := beq_eq_false_iff_ne.mpr zq4
      have hPP := HP.out zq4; rw [decide_eq_false h0, Bool.false_or] at HST; have hi1 : i - 1 < l.length := by omega
      have hw1 : wrap64 ((i : Int) - 1) = ((i - 1 : Nat) : Int) := by unfold wrap64; omega
      have hPg : l[i - 1] = P := by rw [List.getElem?_eq_getElem hi1] at hPP; exact Option.some.inj hPP
      obtain ⟨bd, Ay, cy, e2, y0, y1, y2, y3, y4⟩ := at_T41 (Kd.C_below HR.out HBN.out) ((i - 1 : Nat) : Int) zq4 zq4; rw [Int.toNat_natCast, rdE l (i - 1) hi1, hPg] at y0 y1 y2; rw [rdE l (i - 1) hi1, hPg] at y3 y4; cases e2; obtain ⟨kc, hkc⟩ := (ref06 P.f0 X.f0).get; obtain ⟨cc, hcc⟩ : ∃ z, cmpR P.f0 X.f0 = z := ⟨_, rfl⟩
      rw [hcc] at hkc; have HSB := Lib.hid (show stepB P X = (decide (cc < 0) || (decide (cc = 0) && decide (P.f1 < X.f1))) by unfold stepB; rw [hcc]); have xC := Kd.C_below XC.out HBQ.out; have xl := XL.out; have CM := Lib.hid (fun (p : BelowOf w9) => r06_Compare.calls kc Ay cy P.f0 Ax cx X.f0 _ p.W (Kd.C_below y4 p.h) y3 (Kd.C_below xC p.h) xl hkc); have x0' := fun p => BelowOf.cell (X0.out _ HBQ.out) p
      have y0' := fun p => BelowOf.cell y0 p
      have pK : (0 ≤ ((i - 1 : Nat) : Int)) = True := eq_true zq4; have qK : (((i - 1 : Nat) : Int) < (l.length : Int)) = True := eq_true zq4; have Y1 := Lib.hid y1; clear y1 y2 y3 y4 hkc hcc xC xl hPg hPP HP; go_wp2; refine wp_region_quiet_below zq17 zq17 ?_
      repeat (go_big_quiet_step (exact below_calls (CM.out _)))
      refine wpQuiet_nil ?_; intro wq hw2; have HB2 := Lib.hid (show Below w9.heap.size w9 wq by obtain ⟨p, rfl⟩ := hw2; exact p.h); have HBM := Lib.hid (HBN.out.trans (HB2.out.mono HBN.out.size)); have z1' := fun p => BelowOf.cell (pw_cell_below HB2.out (X1.out _ HBQ.out)) p
      have z2' := fun p => BelowOf.cell (pw_cell_below HB2.out Y1.out) p
      clear hw2 x0' y0' y0 CM
      by_cases h1 : cc > 0
      ·have b1 : decide (cc > 0) = true := decide_eq_true h1
       have HV := Lib.hid (show mayE l = false by rw [HST.out, HSB.out, decide_eq_false (show ¬ cc < 0 by omega), decide_eq_false (show ¬ cc = 0 by omega)]; rfl); go_wp2; refine wp_region_quiet_below zq17 zq17 ?_
       repeat (go_big_quiet_step (fail))
       refine wpQuiet_nil ?_; intro wz hw3; have HBZ := Lib.hid (show Below w.heap.size w wz by obtain ⟨p, rfl⟩ := hw3; exact HBM.out.trans (p.h.mono HBM.out.size)); clear hw3 z1' z2'; go_wp2; go_ret; exact ⟨by rw [HV.out]; rfl, HBZ.out⟩
      ·have b1 : decide (cc > 0) = false := decide_eq_false h1
       by_cases h2 : cc = 0
       ·have b2 : (cc == 0) = true := beq_iff_eq.mpr h2
        by_cases h3 : P.f1 ≥ X.f1
        ·have b3 : decide (P.f1 ≥ X.f1) = true := decide_eq_true h3
         have HV := Lib.hid (show mayE l = false by rw [HST.out, HSB.out, decide_eq_false (show ¬ cc < 0 by omega), decide_eq_false (show ¬ P.f1 < X.f1 by omega), Bool.and_false]; rfl); go_wp2; refine wp_region_quiet_below zq17 zq17 ?_
         repeat (go_big_quiet_step (fail))
         refine wpQuiet_nil ?_; intro wz hw3; have HBZ := Lib.hid (show Below w.heap.size w wz by obtain ⟨p, rfl⟩ := hw3; exact HBM.out.trans (p.h.mono HBM.out.size)); clear hw3 z1' z2'; go_wp2; go_ret; exact ⟨by rw [HV.out]; rfl, HBZ.out⟩
        ·have b3 : decide (P.f1 ≥ X.f1) = false := decide_eq_false h3
         have HEN := Lib.hid (show mayE l = chainA l (i + 1) by rw [HST.out, HSB.out, decide_eq_true h2, decide_eq_true (show P.f1 < X.f1 by omega), Bool.and_true, Bool.or_true, Bool.true_and]); go_wp2; refine wp_region_quiet_below zq17 zq17 ?_
         repeat (go_big_quiet_step (fail))
         refine wpQuiet_nil ?_; intro wz hw3; have HBZ := Lib.hid (show Below w.heap.size w wz by obtain ⟨p, rfl⟩ := hw3; exact HBM.out.trans (p.h.mono HBM.out.size)); clear hw3 z1' z2'; go_wp2; go_roundw
         case rel => exact ⟨i + 1, by omega, by go_num, ⟨HEN.out⟩, ⟨HOKN.out⟩, ⟨HBZ.out⟩⟩
         case measure => simp [intOf]; omega
       ·have b2 : (cc == 0) = false := beq_eq_false_iff_ne.mpr h2
        have HEN := Lib.hid (show mayE l = chainA l (i + 1) by rw [HST.out, HSB.out, decide_eq_true (show cc < 0 by omega), Bool.true_or, Bool.true_and]); go_wp2; refine wp_region_quiet_below zq17 zq17 ?_
        repeat (go_big_quiet_step (fail))
        refine wpQuiet_nil ?_; intro wz hw3; have HBZ := Lib.hid (show Below w.heap.size w wz by obtain ⟨p, rfl⟩ := hw3; exact HBM.out.trans (p.h.mono HBM.out.size)); clear hw3 z1' z2'; go_wp2; go_roundw
        case rel => exact ⟨i + 1, by omega, by go_num, ⟨HEN.out⟩, ⟨HOKN.out⟩, ⟨HBZ.out⟩⟩
        case measure => simp [intOf]; omega
  ·obtain rfl : i = l.length := by omega
   have HV := Lib.hid (show mayE l = true by rw [HEQ.out, chainA_end]); have HOKL := Lib.hid (show ∀ e ∈ l, rowMay e.f0 = true by have := HOK.out; rw [List.take_length] at this; exact this); have HBL := Lib.hid HB.out; clear HEQ HOK HB
   go_wp2_with (go_at_call 66; refine hold3 ?_)
   refine ⟨?_⟩; refine (hrows_calls A0 c0 l w wr HR.out HBL.out zq4 HOKL.out).mono ?_; rintro e w1 ⟨v, rfl, hRr, hb1⟩; obtain ⟨Ar, cr, rfl⟩ := Kd.R_slice hRr; have HRS := Lib.hid (Kd.R_reads' hRr).2.2; have HB1 := Lib.hid (HBL.out.trans (hb1.mono HBL.out.size)); have HRC := Lib.hid (kH_C HB1.out HRS.out); obtain ⟨RS, hRS⟩ : ∃ z, rowsOf l = z := ⟨_, rfl⟩
   rw [hRS] at HRC ⊢; have hrl : RS.length ≤ 1024 := by
    have := insR_len l; rw [insR_eq, hRS] at this; omega
   clear hRr hb1 hRS HRS; go_wp2
   go_loopw [6] (fun v6 wr => ∃ (j : Nat), j ≤ RS.length ∧ v6 = .int .i64 (j : Int) ∧ Aside0 (Below w1.heap.size w1 wr)) (fun v6 wr => RS.length - (intOf v6).toNat)
   case atStart => exact ⟨0, Nat.zero_le _, rfl, ⟨Below.refl _ _⟩⟩
   case round =>
    obtain ⟨j, hj, rfl, HBI⟩ := hrel
    by_cases cj : j < RS.length
    ·obtain ⟨r, hr⟩ : ∃ r, RS[j] = r := ⟨_, rfl⟩
     obtain ⟨a3, Ay, cy, e3, y0, y1, y2⟩ := at_L3 (Kd.C_below HRC.out HBI.out) (j : Int) zq4 zq4; rw [rdR RS j cj, hr] at y0 y1 y2; rw [Int.toNat_natCast] at y0; cases e3; obtain ⟨kj, hkj⟩ := (jumps10 l r HRW.out zq4).get; have JC := Lib.hid (r10_Jumps.calls kj A0 c0 l Ay cy r (jumpsOf l r) wr (Kd.C_below HR.out (HB1.out.trans (HBI.out.mono HB1.out.size))) HC.out y2 y1 hkj); have bj : decide (((jumpsOf l r).length : Int) > 1024) = false := decide_eq_false (by have := jumpsOf_len l r; omega); have pJ : (0 ≤ (j : Int)) = True := eq_true zq4; have qJ : ((j : Int) < (RS.length : Int)) = True := eq_true zq4; clear y1 y2 hkj hr
     go_wp2_with (go_at_call 26; refine hold3 ?_)
     refine ⟨?_⟩; refine JC.out.mono ?_; rintro e w2 ⟨vj, rfl, hRj, hb2⟩; obtain ⟨Aj, cj2, rfl⟩ := Kd.R_slice hRj; have HBJ := Lib.hid (HBI.out.trans (hb2.mono HBI.out.size)); clear hRj hb2 JC y0; go_wp2; go_roundw
     case rel => exact ⟨j + 1, by omega, by go_num, ⟨HBJ.out⟩⟩
     case measure => simp [intOf]; omega
    ·have pj : decide ((j : Int) < (RS.length : Int)) = false := decide_eq_false zq4
     go_wp2; go_ret; exact ⟨by rw [HV.out]; rfl, HB1.out.trans (HBI.out.mono HB1.out.size)⟩
end Go.Proofs.YtmkgecapkeojaaaGreat.Eg
end
section
namespace Go.Proofs.YtmkgecapkeojaaaGreat.Eg
open Go.Proofs.YtmkgecapkeojaaaGreat Go.Proofs.YtmkgecapkeojaaaGreat.PDa
open Go.RowKit Go.Proofs.YtmkgecapkeojaaaGreatW.PrintWords Go.Proofs.YtmkgecapkeojaaaGreatW.PrintLast Go.Proofs.YtmkgecapkeojaaaGreatW.PrintMore
open Go.Proofs.YtmkgecapkeojaaaGreat.EvP (okI)
def oneV (c n : Int) (t : ByteArray) (l : List S65) (k m : Int) (s : ByteArray) : Int × Int × ByteArray × Int :=
 if c = 1 then (1, n, ⟨#[]⟩, 0) else if c = 2 then (2, 0, t, 0) else if c = 3 then (if n ≥ (l.length : Int) then (0, 0, ⟨#[]⟩, 3) else ((rd_T65 l n).f0, (rd_T65 l n).f1, (rd_T65 l n).f2, 0))
 else if c = 6 then (if k = 2 then (1, (s.size : Int), ⟨#[]⟩, 0) else (0, 0, ⟨#[]⟩, 12)) else if k = 1 then (if c = 5 then (1, tv (m == 0), ⟨#[]⟩, 0) else numR (okI (0 - m))) else (0, 0, ⟨#[]⟩, 12)
abbrev oneCalls (c n : Int) (t : ByteArray) (A1 : Option Addr) (c1 : Nat) (l : List S65) (k m : Int) (s : ByteArray) (w : World) (r : Int × Int × ByteArray × Int) : Prop :=
 Calls Tryz.prog 159 #[.agg #[.int .i64 c, .int .i64 n, .string t], .slice A1 l.length c1, .agg #[.int .i64 k, .int .i64 m, .string s]] w fun e w' => OutV r e ∧ Below w.heap.size w w'
theorem ref_num (n : Int) (w : World) : Calls Tryz.prog 178 #[.int .i64 n] w fun e w' => e = .returned (.agg #[.int .i64 1, .int .i64 n, .string ⟨#[]⟩]) ∧ Below w.heap.size w w' :=
 r05_Num.calls n 1 n ⟨#[]⟩ w rfl
theorem ref_neg (n : Int) (hn : EvP.R64 n) (w : World) : Calls Tryz.prog 179 #[.int .i64 n] w fun e w' => e = .returned (.tuple #[.int .i64 (okI (0 - n)).1, .int .i64 (okI (0 - n)).2]) ∧ Below w.heap.size w w' :=
 (r01_Neg.calls n _ _ w (EvP.refNeg_eq n hn)).mono fun e w' z => ⟨z.1, z.2.below⟩
theorem one_num (A1 : Option Addr) (c1 : Nat) (l : List S65) (n k m : Int) (t s : ByteArray) (w : World) : oneCalls 1 n t A1 c1 l k m s w (1, n, ⟨#[]⟩, 0) := by
 go_enter Tryz.func159, Tryz.ntmps159
 go_wp2_with (go_at_call 178; ((with_reducible refine (ref_num _ _).mono ?_); rintro e w1 ⟨rfl, hb1⟩; obtain ⟨bA, bB, bR⟩ := bx3 w _ _ _ _ _ _ _ _ _ _ _ _ _ rfl; obtain ⟨pr0, pr1, pr2, qr0, qr1, qr2, _⟩ := bR.below hb1; replace hb1 := Lib.hid ((below3 _ _ _).trans (hb1.mono zq33))))
 exact bodyPost_ret (v := .tuple #[.agg #[.int .i64 1, .int .i64 n, .string ⟨#[]⟩], .int .i64 0]) (by simp [results, Tryz.results159, go_sem, *]) rfl ⟨rfl, below_set3 hb1.out _ zq4 _ _ _⟩
theorem one_str (A1 : Option Addr) (c1 : Nat) (l : List S65) (n k m : Int) (t s : ByteArray) (w : World) : oneCalls 2 n t A1 c1 l k m s w (2, 0, t, 0) := by
 go_enter Tryz.func159, Tryz.ntmps159
 go_wp2_with (go_at_call 171; ((with_reducible refine (ref_text _ _).mono ?_); rintro e w1 ⟨rfl, hb1⟩; obtain ⟨bA, bB, bR⟩ := bx3 w _ _ _ _ _ _ _ _ _ _ _ _ _ rfl; obtain ⟨pr0, pr1, pr2, qr0, qr1, qr2, _⟩ := bR.below hb1; replace hb1 := Lib.hid ((below3 _ _ _).trans (hb1.mono zq33))))
 exact bodyPost_ret (v := .tuple #[.agg #[.int .i64 2, .int .i64 0, .string t], .int .i64 0]) (by simp [results, Tryz.results159, go_sem, *]) rfl ⟨rfl, below_set3 hb1.out _ zq4 _ _ _⟩
theorem one_far (A1 : Option Addr) (c1 : Nat) (l : List S65) (n k m : Int) (t s : ByteArray) (h : decide (n ≥ (l.length : Int)) = true) (w : World) : oneCalls 3 n t A1 c1 l k m s w (0, 0, ⟨#[]⟩, 3) := by
 go_enter Tryz.func159, Tryz.ntmps159; go_wp2; exact bodyPost_ret (v := .tuple #[.agg #[.int .i64 0, .int .i64 0, .string ⟨#[]⟩], .int .i64 3]) (by simp [results, Tryz.results159, go_sem, *]) rfl ⟨rfl, below3 _ _ _⟩
theorem one_len (A1 : Option Addr) (c1 : Nat) (l : List S65) (n m : Int) (t s : ByteArray) (w : World) : oneCalls 6 n t A1 c1 l 2 m s w (1, (s.size : Int), ⟨#[]⟩, 0) := by
 go_enter Tryz.func159, Tryz.ntmps159
 go_wp2_with (go_at_call 178; ((with_reducible refine (ref_num _ _).mono ?_); rintro e w1 ⟨rfl, hb1⟩; obtain ⟨bA, bB, bR⟩ := bx3 w _ _ _ _ _ _ _ _ _ _ _ _ _ rfl; obtain ⟨pr0, pr1, pr2, qr0, qr1, qr2, _⟩ := bR.below hb1; replace hb1 := Lib.hid ((below3 _ _ _).trans (hb1.mono zq33))))
 exact bodyPost_ret (v := .tuple #[.agg #[.int .i64 1, .int .i64 (s.size : Int), .string ⟨#[]⟩], .int .i64 0]) (by simp [results, Tryz.results159, go_sem, *]) rfl ⟨rfl, below_set3 hb1.out _ zq4 _ _ _⟩
theorem one_lenk (A1 : Option Addr) (c1 : Nat) (l : List S65) (n k m : Int) (t s : ByteArray) (h : (k == 2) = false) (w : World) : oneCalls 6 n t A1 c1 l k m s w (0, 0, ⟨#[]⟩, 12) := by
 go_enter Tryz.func159, Tryz.ntmps159; go_wp2; exact bodyPost_ret (v := .tuple #[.agg #[.int .i64 0, .int .i64 0, .string ⟨#[]⟩], .int .i64 12]) (by simp [results, Tryz.results159, go_sem, *]) rfl ⟨rfl, below3 _ _ _⟩
theorem one_kind (A1 : Option Addr) (c1 : Nat) (l : List S65) (c n k m : Int) (t s : ByteArray) (h1 : (c == 1) = false) (h2 : (c == 2) = false) (h3 : (c == 3) = false) (h6 : (c == 6) = false) (h : (k == 1) = false) (w : World) : oneCalls c n t A1 c1 l k m s w (0, 0, ⟨#[]⟩, 12) := by
 go_enter Tryz.func159, Tryz.ntmps159; go_wp2; exact bodyPost_ret (v := .tuple #[.agg #[.int .i64 0, .int .i64 0, .string ⟨#[]⟩], .int .i64 12]) (by simp [results, Tryz.results159, go_sem, *]) rfl ⟨rfl, below3 _ _ _⟩
theorem one_not (A1 : Option Addr) (c1 : Nat) (l : List S65) (n m : Int) (t s : ByteArray) (w : World) : oneCalls 5 n t A1 c1 l 1 m s w (1, tv (m == 0), ⟨#[]⟩, 0) := by
 go_enter Tryz.func159, Tryz.ntmps159
 go_wp2_with (go_at_call 170; ((with_reducible refine (ref_truth _ _).mono ?_); rintro e w1 ⟨rfl, hb1⟩; obtain ⟨bA, bB, bR⟩ := bx3 w _ _ _ _ _ _ _ _ _ _ _ _ _ rfl; obtain ⟨pr0, pr1, pr2, qr0, qr1, qr2, _⟩ := bR.below hb1; replace hb1 := Lib.hid ((below3 _ _ _).trans (hb1.mono zq33))))
 exact bodyPost_ret (v := .tuple #[.agg #[.int .i64 1, .int .i64 (tv (m == 0)), .string ⟨#[]⟩], .int .i64 0]) (by simp [results, Tryz.results159, go_sem, *]) rfl ⟨rfl, below_set3 hb1.out _ zq4 _ _ _⟩
theorem one_neg (A1 : Option Addr) (c1 : Nat) (l : List S65) (c n m : Int) (t s : ByteArray) (hm : EvP.R64 m) (h1 : (c == 1) = false) (h2 : (c == 2) = false) (h3 : (c == 3) = false) (h6 : (c == 6) = false) (h5 : (c == 5) = false) (w : World) : oneCalls c n t A1 c1 l 1 m s w (numR (okI (0 - m))) := by
 go_enter Tryz.func159, Tryz.ntmps159
 go_wp2_with (first | (go_at_call 179; ((with_reducible refine (ref_neg m hm _).mono ?_); rintro e w1 ⟨rfl, hb1⟩; obtain ⟨bA, bB, bR⟩ := bx3 w _ _ _ _ _ _ _ _ _ _ _ _ _ rfl; obtain ⟨pr0, pr1, pr2, qr0, qr1, qr2, _⟩ := bR.below hb1; have bR2 := Lib.hid (bR.below hb1); replace hb1 := Lib.hid ((below3 _ _ _).trans (hb1.mono zq33)))) | (go_at_call 172; ((with_reducible refine (ref_number _ _ _).mono ?_); rintro e w2 ⟨rfl, hb2⟩; clear pr0 pr1 pr2 qr0 qr1 qr2; obtain ⟨pr0, pr1, pr2, qr0, qr1, qr2, _⟩ := bR2.out.below hb2; replace hb2 := Lib.hid (g_bel hb1.out hb2))))
 exact bodyPost_ret (v := .tuple #[.agg #[.int .i64 (numR (okI (0 - m))).1, .int .i64 (numR (okI (0 - m))).2.1, .string (numR (okI (0 - m))).2.2.1], .int .i64 (numR (okI (0 - m))).2.2.2]) (by simp [results, Tryz.results159, go_sem, *]) rfl ⟨rfl, below_set3 hb2.out _ zq4 _ _ _⟩
theorem one_get (A1 : Option Addr) (c1 : Nat) (l : List S65) (n k m : Int) (t s : ByteArray) (w : World) (hr : Kd.C k65 w A1 l.length l) (h0 : 0 ≤ n) (h1 : n < (l.length : Int)) : oneCalls 3 n t A1 c1 l k m s w ((rd_T65 l n).f0, (rd_T65 l n).f1, (rd_T65 l n).f2, 0) := by
 obtain ⟨ad, rfl, x0, x1, x2⟩ := at_T65 hr n h0 h1; generalize rd_T65 l n = X at *; have y0 := pw_cell_below (below3 (w := w) (.cells #[.int .i64 3, .int .i64 n, .string t] 68) (.cells #[.int .i64 k, .int .i64 m, .string s] 65) (.cells #[.int .i64 0, .int .i64 0, .string ⟨#[]⟩] 65)) x0; have y1 := pw_cell_below (below3 (w := w) (.cells #[.int .i64 3, .int .i64 n, .string t] 68) (.cells #[.int .i64 k, .int .i64 m, .string s] 65) (.cells #[.int .i64 0, .int .i64 0, .string ⟨#[]⟩] 65)) x1; have y2 := pw_cell_below (below3 (w := w) (.cells #[.int .i64 3, .int .i64 n, .string t] 68) (.cells #[.int .i64 k, .int .i64 m, .string s] 65) (.cells #[.int .i64 0, .int .i64 0, .string ⟨#[]⟩] 65)) x2; have b0 : decide (n ≥ (l.length : Int)) = false := decide_eq_false zq4; have p0 : (0 ≤ n) = True := eq_true h0; have p1 : (n < (l.length : Int)) = True := eq_true h1; clear h0 h1 hr; go_enter Tryz.func159, Tryz.ntmps159; go_wp2; exact bodyPost_ret (v := .tuple #[.agg #[.int .i64 X.f0, .int .i64 X.f1, .string X.f2], .int .i64 0]) (by simp [results, Tryz.results159, go_sem, *]) rfl ⟨rfl, below3 _ _ _⟩
theorem hone_calls (A1 : Option Addr) (c1 : Nat) (l : List S65) (c n k m : Int) (t s : ByteArray) (w : World) (hr : Kd.C k65 w A1 l.length l) (hn : c = 3 → 0 ≤ n) (hm : EvP.R64 m) : oneCalls c n t A1 c1 l k m s w (oneV c n t l k m s) := by
 have B := fun {a b : Int} (h : ¬ a = b) => (beq_eq_false_iff_ne.mpr h : (a == b) = false)
 unfold oneV
 by_cases h1 : c = 1
 ·subst h1; exact one_num A1 c1 l n k m t s w
 rw [if_neg h1]
 by_cases h2 : c = 2
 ·subst h2; exact one_str A1 c1 l n k m t s w
 rw [if_neg h2]
 by_cases h3 : c = 3
 ·subst h3
  rw [if_pos rfl]
  by_cases h : n ≥ (l.length : Int)
  ·rw [if_pos h]; exact one_far A1 c1 l n k m t s (decide_eq_true h) w
  ·rw [if_neg h]; exact one_get A1 c1 l n k m t s w hr (hn rfl) zq4
 rw [if_neg h3]
 by_cases h6 : c = 6
 ·subst h6
  rw [if_pos rfl]
  by_cases h : k = 2
  ·subst h; exact one_len A1 c1 l n m t s w
  ·rw [if_neg h]; exact one_lenk A1 c1 l n k m t s (B h) w
 rw [if_neg h6]
 by_cases hk : k = 1
 ·subst hk
  rw [if_pos rfl]
  by_cases h5 : c = 5
  ·subst h5; exact one_not A1 c1 l n m t s w
  ·rw [if_neg h5]; exact one_neg A1 c1 l c n m t s hm (B h1) (B h2) (B h3) (B h6) (B h5) w
 ·rw [if_neg hk]; exact one_kind A1 c1 l c n k m t s (B h1) (B h2) (B h3) (B h6) (B hk) w
end Go.Proofs.YtmkgecapkeojaaaGreat.Eg
end
