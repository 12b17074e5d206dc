/- Texts of this claim, put together by a program: Table, TicksP, LawT, LawTW, WSized. -/
import Derived.Test.YtmkgecapkeojaaaGreatT9
import Derived.Deep.DeepCutAuto
import Derived.SizedLaws
import Derived.ChangeSlices
set_option linter.unusedVariables false
set_option linter.unusedSimpArgs false
set_option maxHeartbeats 8000000
set_option maxRecDepth 100000
section
namespace Go.Proofs.YtmkgecapkeojaaaGreat.Eg
open Go.Proofs.YtmkgecapkeojaaaGreat Go.Proofs.YtmkgecapkeojaaaGreat.PDa
open Go.RowKit Go.Proofs.YtmkgecapkeojaaaGreatW.PrintWords Go.Proofs.YtmkgecapkeojaaaGreatW.PrintLast Go.Proofs.YtmkgecapkeojaaaGreatW.PrintMore
open Go.Proofs.YtmkgecapkeojaaaGreat.SortM Go.Proofs.YtmkgecapkeojaaaGreat.Run Go.Proofs.YtmkgecapkeojaaaGreat.Stp Go.Proofs.YtmkgecapkeojaaaGreat.Rw
def leastL (v m : Int) : List Jp → Int
 | [] => m
 | j :: js => leastL (v + j.f1) (if v + j.f1 < m then v + j.f1 else m) js
def leastJ (f : List Jp) : Int := if mayJ f = true then (match f with | [] => 0 | j :: js => leastL 0 (if j.f0 = -1 then j.f1 else 0) (j :: js)) else 0
theorem okFair {n : Int} (h : fairB n = true) : -1048576 ≤ n ∧ n ≤ 1048576 := by
 unfold fairB at h; rw [Bool.and_eq_true] at h; exact ⟨of_decide_eq_true h.2, of_decide_eq_true h.1⟩
theorem rdJt (l : List Jp) (i : Nat) (h : i < l.length) : rd_T85 l (i : Int) = l[i] := by
 unfold rd_T85; rw [Int.toNat_natCast, List.getD_eq_getElem?_getD, List.getElem?_eq_getElem h]
 rfl
theorem Least_calls (A : Option Addr) (c : Nat) (f : List Jp) (w : World) (hr : Kd.C kJ w A f.length f) (hc : f.length ≤ c) :
  Calls Tryz.prog 62 #[.slice A f.length c] w fun e w' => e = .returned (.int .i64 (leastJ f)) ∧ Below w.heap.size w w' := by
 have M := Lib.hid (may_any A c f w hr hc); have HR := Lib.hid hr; clear hr hc; cases hm : mayJ f with
 | false =>
  rw [hm] at M; have HL := Lib.hid (show leastJ f = 0 by unfold leastJ; rw [if_neg (by rw [hm]; decide)]); clear hm; go_enter Tryz.func62, Tryz.ntmps62
  go_wp2_with fail
  refine M.out.mono ?_; rintro e w1 ⟨rfl, hb⟩; go_wp2; go_ret; exact ⟨by rw [HL.out]; rfl, hb⟩
 | true =>
  rw [hm] at M; obtain ⟨p1, p2, _⟩ := mayJ_parts hm; have HF := Lib.hid (fun j (hj : j ∈ f) => (okFair (p2 j hj).2.2.2)); clear p2
  by_cases h0 : f.length = 0
  ·have HL := Lib.hid (show leastJ f = 0 by
    unfold leastJ; rw [if_pos hm]
    have : f = [] := List.eq_nil_of_length_eq_zero h0; subst this; rfl)
   have q0 : ((f.length : Int) == 0) = true := by simpa using h0
   clear hm h0; go_enter Tryz.func62, Tryz.ntmps62
   go_wp2_with fail
   refine M.out.mono ?_; rintro e w1 ⟨rfl, hb⟩; go_wp2; go_ret; exact ⟨by rw [HL.out]; rfl, hb⟩
  ·have q0 : ((f.length : Int) == 0) = false := by simpa using h0
   have h1 : 0 < f.length := by omega
   obtain ⟨X, hX⟩ : ∃ X, f[0]'h1 = X := ⟨_, rfl⟩
   have hf : f = X :: f.drop 1 := by rw [← hX, List.getElem_cons_drop, List.drop_zero]
   have HL := Lib.hid (show leastJ f = leastL 0 (if X.f0 = -1 then X.f1 else 0) f by
    unfold leastJ; rw [if_pos hm]
    rw [hf])
   obtain ⟨m0, hm0⟩ : ∃ m0 : Int, (if X.f0 = -1 then X.f1 else 0) = m0 := ⟨_, rfl⟩
   rw [hm0] at HL; obtain ⟨R, hR⟩ : ∃ R, leastJ f = R := ⟨_, rfl⟩
   rw [hR] at HL ⊢; have hXb := HF.out X (by rw [hf]; exact List.mem_cons_self); have hb0 : -1048576 ≤ m0 ∧ m0 ≤ 1048576 := by
    rw [← hm0]; split <;> omega
   have HX := Lib.hid hX; clear hm h0 hR hf hX; go_enter Tryz.func62, Tryz.ntmps62
   go_wp2_with fail
   refine M.out.mono ?_; rintro e w1 ⟨rfl, hb⟩; have HB1 := Lib.hid hb; obtain ⟨ad, e1, x0, x1⟩ := at_T85 (Kd.C_below HR.out hb) ((0 : Nat) : Int) zq4 zq4; rw [rdJt f 0 h1, HX.out] at x0 x1; rw [Int.toNat_natCast, Nat.zero_mul] at x0 x1; cases e1; have ez : ad.add 0 = ad := by unfold Addr.add; split <;> simp_all
   rw [ez] at x0 x1; clear hb ez; have q1 : (0 : Int) < (f.length : Int) := by omega
   have HM0 := Lib.hid hm0
   go_upto_if 19 with (refine SortJ.stopC (n := 19) ?_; intro J hJ)
   refine Met.intro (hJ _ _ ?_)
   go_cut [4] (fun v4 wx => v4 = .int .i64 m0 ∧ w1 = wx)
   case first =>
    clear hJ
    by_cases cx : X.f0 = -1
    ·have qx : (X.f0 == -1) = true := by simpa using cx
     have e2 := Lib.hid (show X.f1 = m0 by rw [← hm0, if_pos cx]); clear cx hm0
     go_wp2_with fail
     go_meet
     exact ⟨by rw [e2.out], rfl⟩
    ·have qx : (X.f0 == -1) = false := by simpa using cx
     have e2 := Lib.hid (show 0 = m0 by rw [← hm0, if_neg cx]); clear cx hm0
     go_wp2_with fail
     go_meet
     exact ⟨by rw [e2.out], rfl⟩
   case rest =>
   obtain ⟨rfl, rfl⟩ := hcut; clear hm0 x0 x1 q1 hXb hJ; go_wp2
   go_loopw [26, 3, 4] (fun v26 v3 v4 wr => ∃ (i : Nat) (v m : Int), i ≤ f.length ∧ v26 = .int .i64 (i : Int) ∧ v3 = .int .i64 v ∧ v4 = .int .i64 m ∧ -1048576 * (i : Int) ≤ v ∧ v ≤ 1048576 * (i : Int) ∧ Aside0 (leastL v m (f.drop i) = R) ∧ Aside0 (Below w.heap.size w wr)) (fun v26 v3 v4 wr => f.length - (intOf v26).toNat)
   case atStart => exact ⟨0, 0, m0, by omega, rfl, rfl, rfl, by omega, by omega, ⟨by rw [List.drop_zero]; exact HL.out.symm⟩, ⟨HB1.out⟩⟩
   case round =>
    obtain ⟨i, v, m, hi, rfl, rfl, rfl, v1, v2, HE, HB⟩ := hrel
    by_cases c : i < f.length
    ·obtain ⟨Y, hY⟩ : ∃ Y, f[i] = Y := ⟨_, rfl⟩
     obtain ⟨ad, e1, x0, x1⟩ := at_T85 (Kd.C_below HR.out HB.out) (i : Int) zq4 zq4; rw [Int.toNat_natCast, rdJt f i c, hY] at x0 x1; cases e1; have hYb := HF.out Y (by rw [← hY]; exact List.getElem_mem c); have HE2 := Lib.hid (show leastL (v + Y.f1) (if v + Y.f1 < m then v + Y.f1 else m) (f.drop (i + 1)) = R by rw [← HE.out, List.drop_eq_getElem_cons c, hY, leastL]); have qs : v + Y.f1 ≤ 1048576 * ((i + 1 : Nat) : Int) := by omega
     have qs2 : -1048576 * ((i + 1 : Nat) : Int) ≤ v + Y.f1 := by omega
     have qi : (i : Int) < (f.length : Int) := by omega
     have qb : v + Y.f1 ≤ 9223372036854775807 := by omega
     have qc : -9223372036854775808 ≤ v + Y.f1 := by omega
     clear hY HE; go_wp2; go_roundw
     case rel => exact ⟨i + 1, _, _, by omega, by go_num, rfl, rfl, qs2, qs, ⟨HE2.out⟩, ⟨below_alloc HB.out _⟩⟩
     case measure => simp [intOf]; omega
    ·obtain rfl : i = f.length := by omega
     obtain rfl : m = R := by have := HE.out; rwa [List.drop_length, leastL] at this
     go_wp2; go_ret; exact ⟨rfl, HB.out⟩
def tabJ (f : List Jp) : Bool := mayJ f && decide (leastJ f ≥ 0)
theorem table1_calls (A : Option Addr) (c : Nat) (f : List Jp) (w : World) (hr : Kd.C kJ w A f.length f) (hc : f.length ≤ c) :
  Calls Tryz.prog 60 #[.slice A f.length c] w fun e w' => e = .returned (.bool (tabJ f)) ∧ Below w.heap.size w w' := by
 have M := Lib.hid (may_any A c f w hr hc); have L := Lib.hid (fun (w1 : World) (h : Below w.heap.size w w1) => Least_calls A c f w1 (Kd.C_below hr h) hc); clear hr hc; obtain ⟨z, hz⟩ : ∃ z, leastJ f = z := ⟨_, rfl⟩
 obtain ⟨b, hb⟩ : ∃ b, mayJ f = b := ⟨_, rfl⟩
 rw [show tabJ f = (b && decide (z ≥ 0)) by unfold tabJ; rw [hz, hb]]; rw [hz] at L; rw [hb] at M; clear hz hb; cases b with
 | false =>
  go_enter Tryz.func60, Tryz.ntmps60
  go_wp2_with fail
  refine M.out.mono ?_; rintro e w1 ⟨rfl, hb⟩; go_wp2; go_ret; exact ⟨rfl, hb⟩
 | true =>
  go_enter Tryz.func60, Tryz.ntmps60
  go_wp2_with fail
  refine M.out.mono ?_; rintro e w1 ⟨rfl, hb⟩; have HB := Lib.hid hb; clear hb
  go_wp2_with fail
  refine (L.out w1 HB.out).mono ?_; rintro e w2 ⟨rfl, hb⟩; have HB2 := Lib.hid (HB.out.trans (hb.mono HB.out.size)); clear hb; go_wp2; go_ret; exact ⟨by simp, HB2.out⟩
def tableE (l : List EdP) : Bool := eachP tabJ l
theorem Table_calls (A0 : Option Addr) (c0 : Nat) (l : List EdP) (w : World) (hr0 : Kd.C kE w A0 l.length l) (hrow : ∀ e ∈ l, e.f0.length ≤ 4398046511104) :
  Calls Tryz.prog 23 #[.slice A0 l.length c0] w fun e w' => e = .returned (.bool (tableE l)) ∧ Below w.heap.size w w' := by
 have EC := Lib.hid (each_calls tabJ 60 A0 c0 l w hr0 hrow (enters_of Tryz.func60 zq17 rfl) (fun A c f W1 _ h => table1_calls A c f W1 (Kd.R_reads' h).2.2 (Kd.R_reads' h).2.1)); clear hr0 hrow; go_enter Tryz.func23, Tryz.ntmps23
 go_wp2_with ((with_reducible refine EC.out.mono ?_); rintro e w' ⟨rfl, hb⟩)
 go_ret; exact ⟨rfl, hb⟩
end Go.Proofs.YtmkgecapkeojaaaGreat.Eg
end
section
namespace Go.Proofs.YtmkgecapkeojaaaGreat.Eg
open Go.Proofs.YtmkgecapkeojaaaGreat Go.Proofs.YtmkgecapkeojaaaGreat.PDa
open Go.Proofs.YtmkgecapkeojaaaGreat.EvP (evalV formV holdsV)
open Go.RowKit Go.Proofs.YtmkgecapkeojaaaGreatW.PrintWords Go.Proofs.YtmkgecapkeojaaaGreat.Stp Go.Proofs.YtmkgecapkeojaaaGreat.Rw Go.Proofs.YtmkgecapkeojaaaGreat.Cmp Go.Proofs.YtmkgecapkeojaaaGreat.Canon
def Pre (v : Int) : List Jp → Prop
 | [] => True
 | j :: js => 0 ≤ v + j.f1 ∧ Pre (v + j.f1) js
theorem leastL_iff : ∀ (f : List Jp) (v m : Int), 0 ≤ leastL v m f ↔ 0 ≤ m ∧ Pre v f
 | [], v, m => by simp [leastL, Pre]
 | j :: js, v, m => by
  rw [leastL, leastL_iff js, Pre]
  split <;> constructor <;> rintro ⟨h1, h2⟩
  ·exact ⟨by omega, h1, h2⟩
  ·exact ⟨h2.1, h2.2⟩
  ·exact ⟨h1, by omega, h2⟩
  ·exact ⟨h1, h2.2⟩
theorem valI_low {f : List Jp} {t : Int} (h : ∀ j ∈ f, t < j.f0) : valI f t = 0 := by
 induction f with
 | nil => rfl
 | cons x xs ih =>
  have h1 := h x List.mem_cons_self; rw [valI, if_neg (by omega), ih fun j hj => h j (List.mem_cons_of_mem _ hj)]; rfl
theorem pre_of : ∀ (f : List Jp) (v : Int), f.Pairwise (fun x y => x.f0 < y.f0) → 0 ≤ v → (∀ t, 0 ≤ v + valI f t) → Pre v f
 | [], _, _, _, _ => trivial
 | j :: js, v, hp, hv, h => by
  have h1 := List.pairwise_cons.1 hp; have h2 := h j.f0; rw [valI, if_pos (Int.le_refl _), valI_low h1.1] at h2; refine ⟨by omega, pre_of js _ h1.2 (by omega) fun t => ?_⟩
  by_cases c : j.f0 ≤ t
  ·have := h t
   rw [valI, if_pos c] at this; omega
  ·rw [valI_low (fun y hy => by have := h1.1 y hy; omega)]; omega
theorem pre_val : ∀ (f : List Jp) (v : Int), f.Pairwise (fun x y => x.f0 < y.f0) → 0 ≤ v → Pre v f → ∀ t, 0 ≤ v + valI f t
 | [], v, _, hv, _, t => by simp [valI]; exact hv
 | j :: js, v, hp, hv, h, t => by
  have h1 := List.pairwise_cons.1 hp
  by_cases c : j.f0 ≤ t
  ·have := pre_val js _ h1.2 h.1 h.2 t
   rw [valI, if_pos c]; omega
  ·rw [valI_low (fun y hy => by
    rcases List.mem_cons.1 hy with rfl | hy
    ·omega
    ·have := h1.1 y hy; omega)]
   omega
theorem least_iff {f : List Jp} (h : mayJ f = true) : 0 ≤ leastJ f ↔ ∀ t, 0 ≤ valI f t := by
 have hp := (mayJ_parts h).2.2; unfold leastJ; rw [if_pos h]; cases f with
 | nil => simp [valI]
 | cons j js =>
  simp only; rw [leastL_iff]
  constructor
  ·rintro ⟨_, h2⟩ t
   have := pre_val _ 0 hp (Int.le_refl _) h2 t; omega
  ·intro h2
   refine ⟨?_, pre_of _ 0 hp (Int.le_refl _) fun t => by have := h2 t; omega⟩
   split
   ·have := h2 j.f0
    rw [valI, if_pos (Int.le_refl _), valI_low (List.pairwise_cons.1 hp).1] at this; omega
   ·exact Int.le_refl _
def NN (l : List EdP) : Prop := ∀ r t, 0 ≤ valI (jumpsOf l r) t
theorem eachR_and (q : List Jp → Bool) : ∀ (its : List (List Vl × List Jp)) (last : Option (List Vl)), eachR (fun f => mayJ f && q f) last its = (eachR mayJ last its && its.all fun x => q x.2)
 | [], _ => rfl
 | x :: its, last => by
  rw [eachR, eachR, eachR_and q its, List.all_cons]; generalize rowMay x.1 = a; generalize lastB last x.1 = b; generalize mayJ x.2 = c; generalize q x.2 = d; generalize eachR mayJ (some x.1) its = e; generalize its.all _ = g
  cases a <;> cases b <;> cases c <;> cases d <;> cases e <;> cases g <;> rfl
theorem table_iff (l : List EdP) : tableE l = true ↔ MayP l ∧ NN l := by
 have e : tableE l = (mayE l && (runsP l).all fun x => decide (leastJ x.2 ≥ 0)) := by
  unfold tableE mayE eachP; rw [show tabJ = fun f => mayJ f && decide (leastJ f ≥ 0) from rfl, eachR_and (fun f => decide (leastJ f ≥ 0)), Bool.and_assoc]
 rw [e, Bool.and_eq_true, mayE_iff]; refine and_congr_right fun h => ?_
 rw [runs_groups l (isC_rows h.can), List.all_eq_true]
 constructor
 ·intro ha r t
  by_cases hr : r ∈ rowsOf l
  ·exact (least_iff (h.jumps r)).1 (of_decide_eq_true (ha (r, jumpsOf l r) (List.mem_map.2 ⟨r, hr, rfl⟩))) t
  ·rw [jumpsOf_none l r (fun e he e1 => hr ((rowsOf_mem l r).2 ⟨e, he, e1⟩))]; exact Int.le_refl _
 ·intro ha x hx
  obtain ⟨r, _, rfl⟩ := List.mem_map.1 hx; exact decide_eq_true ((least_iff (h.jumps r)).2 (ha r))
theorem jumpsOf_filter2 (p : List Vl → Bool) (r : List Vl) (l : List EdP) : jumpsOf (l.filter fun e => p e.f0) r = if p r = true then jumpsOf l r else [] := by
 induction l with
 | nil => simp [jumpsOf]
 | cons e es ih =>
  rw [List.filter_cons, jumpsOf_cons]
  by_cases c : p e.f0 = true
  ·rw [if_pos c, jumpsOf_cons, ih]
   by_cases h : e.f0 = r
   ·rw [← h, if_pos c, if_pos c]
   ·rw [if_neg h]; split <;> simp
  ·rw [if_neg c, ih]
   by_cases h : e.f0 = r
   ·rw [← h, if_neg c, if_neg c]
   ·rw [if_neg h]; simp
theorem nn_filter {l : List EdP} (h : NN l) (p : List Vl → Bool) : NN (l.filter fun e => p e.f0) := fun r t => by
 rw [jumpsOf_filter2]
 split
 ·exact h r t
 ·exact Int.le_refl _
theorem val_split (r : List Vl) (t : Int) : ∀ l : List EdP, valI (jumpsOf l r) t = S (fun k => if k.1 = r ∧ k.2 ≤ t then 1 else 0) (l.map pE)
 | [] => rfl
 | e :: es => by
  rw [jumpsOf_cons, valI_append, val_split r t es]
  show _ = (if e.f0 = r ∧ e.f1 ≤ t then 1 else 0) * e.f2 + S _ (es.map pE)
  congr 1
  by_cases h : e.f0 = r
  ·rw [if_pos h]
   show (if e.f1 ≤ t then e.f2 else 0) + 0 = _
   by_cases h2 : e.f1 ≤ t
   ·rw [if_pos h2, if_pos ⟨h, h2⟩]; omega
   ·rw [if_neg h2, if_neg (fun h3 => h2 h3.2)]; omega
  ·rw [if_neg h, if_neg (fun h3 => h h3.1)]; simp [valI]
theorem S_append (φ : KK → Int) : ∀ a b, S φ (a ++ b) = S φ a + S φ b
 | [], b => by simp [S]
 | x :: xs, b => by rw [List.cons_append, S, S, S_append φ xs b]; omega
theorem S_map (g : List Vl → List Vl) (φ : KK → Int) : ∀ l : List EdP, S φ ((l.map (mapE g)).map pE) = S (fun k => φ (g k.1, k.2)) (l.map pE)
 | [] => rfl
 | e :: es => by
  show φ (g e.f0, e.f1) * e.f2 + S φ ((es.map (mapE g)).map pE) = φ (g e.f0, e.f1) * e.f2 + S _ (es.map pE)
  rw [S_map g φ es]
theorem val_map_nn {l : List EdP} (h : MayP l) (hn : NN l) (g : List Vl → List Vl) : NN (l.map (mapE g)) := fun r t => by
 rw [val_split, S_map]; have key : ∀ its : List (List Vl × List Jp), (∀ x ∈ its, ∀ t, 0 ≤ valI x.2 t) → 0 ≤ S (fun k => if g k.1 = r ∧ k.2 ≤ t then 1 else 0) ((flatG its).map pE) := by
  intro its
  induction its with
  | nil => intro _; exact Int.le_refl _
  | cons x its ih =>
   intro hx; rw [flatG_cons, List.map_append, S_append]; have h1 := ih fun y hy => hx y (List.mem_cons_of_mem _ hy)
   have h2 : ∀ f : List Jp, S (fun k => if g k.1 = r ∧ k.2 ≤ t then 1 else 0) ((putP [] x.1 f).map pE) = if g x.1 = r then valI f t else 0 := by
    intro f
    induction f with
    | nil => simp [putP, S, valI]
    | cons j js ih2 =>
     have e : (putP [] x.1 (j :: js)).map pE = ((x.1, j.f0), j.f1) :: (putP [] x.1 js).map pE := rfl; rw [e, S, ih2, valI]
     by_cases c : g x.1 = r
     ·simp only [c, true_and, if_true]
      split <;> omega
     ·simp [c]
   rw [h2]; have h3 := hx x List.mem_cons_self t
   split <;> omega
 have := key (runsP l) fun x hx t => by
  rw [runs_groups l (isC_rows h.can)] at hx; obtain ⟨q, _, rfl⟩ := List.mem_map.1 hx; exact hn q t
 rw [runs_flat l] at this; exact this
theorem nn_norm {l b : List EdP} (hl : ∀ e ∈ l, e.f1 < 1125899906842624) (hb : normV l = (b, 0)) (hn : NN l) : MayP b ∧ NN b := by
 obtain ⟨ok, hf, e⟩ := okN_of_norm (l := l) (by rw [hb]); rw [hb] at e; obtain rfl : b = flat l := congrArg Prod.fst e; refine ⟨flat_may ok hf, fun r t => ?_⟩; rw [val_split, S_congr _ (b := l.map pE) (fun k => ?_), ← val_split]
 ·exact hn r t
 ·obtain ⟨r, t⟩ := k
  show JE (flat l) (r, t) = JE l (r, t)
  rw [flat_J]
  split
  ·rfl
  ·rename_i c
   refine (J_none _ _ fun x hx e => c ?_).symm; obtain ⟨y, hy, rfl⟩ := List.mem_map.1 hx; have := hl y hy; rw [show y.f1 = t from (Prod.mk.inj e).2] at this; exact this
theorem table_filter {hh : List Vl → Bool × Int} {ef : Int} {l f : List EdP} (ht : tableE l = true) (h : filterP hh ef l = (f, 0)) : tableE f = true := by
 obtain ⟨m, _, _, rfl⟩ := filterP_parts h; exact (table_iff _).2 ⟨m.filter fun r => (hh r).1, nn_filter ((table_iff l).1 ht).2 fun r => (hh r).1⟩
theorem table_project {xs : List (List Op8)} {l p : List EdP} (ht : tableE l = true) (h : projD xs l = (p, 0)) : tableE p = true := by
 obtain ⟨m, n⟩ := (table_iff l).1 ht; unfold projD at h; rw [if_pos ((mayE_iff l).2 m)] at h
 split at h
 ·cases h
 ·split at h
  ·rename_i c2; exact absurd (congrArg Prod.snd h) c2
  ·split at h
   ·rename_i c3; exact absurd (congrArg Prod.snd h) c3
   ·rename_i c3
    rw [madeL_of _ l [] (madeL_ok _ l [] (by simpa using c3))] at h; refine (table_iff p).2 (nn_norm (fun e he => ?_) h (val_map_nn m n _)); rw [List.nil_append] at he; obtain ⟨y, hy, rfl⟩ := List.mem_map.1 he; exact (m.each y hy).2.2.1
theorem filterP_err {hh : List Vl → Bool × Int} {ef : Int} {l : List EdP} (h : (filterP hh ef l).2 ≠ 0) : (filterP hh ef l).1 = [] := by
 have key : ∀ (l out : List EdP), (filL hh out l).2 ≠ 0 → (filL hh out l).1 = [] := by
  intro l
  induction l with
  | nil => intro out h; exact absurd rfl h
  | cons x xs ih =>
   intro out h; rw [filL] at h ⊢
   split
   ·rfl
   ·rename_i c
    rw [if_neg c] at h
    split
    ·rename_i c2; rw [if_pos c2] at h; exact ih _ h
    ·rename_i c2; rw [if_neg c2] at h; exact ih _ h
 unfold filterP at h ⊢
 split
 ·rename_i c
  rw [if_pos c] at h
  split
  ·rfl
  ·rename_i c2
   rw [if_neg c2, fil_all hh l c] at h; rw [fil_all hh l c]; exact key l [] h
 ·rfl
end Go.Proofs.YtmkgecapkeojaaaGreat.Eg
end
section
namespace Go.Proofs.YtmkgecapkeojaaaGreat.Eg
open Go.Proofs.YtmkgecapkeojaaaGreat Go.Proofs.YtmkgecapkeojaaaGreat.PDa
open Go.RowKit Go.Proofs.YtmkgecapkeojaaaGreatW.PrintWords Go.Proofs.YtmkgecapkeojaaaGreatW.PrintLast Go.Proofs.YtmkgecapkeojaaaGreatW.PrintMore
open Go.Proofs.YtmkgecapkeojaaaGreat.Stp Go.Proofs.YtmkgecapkeojaaaGreat.Rw
theorem jumps_any (A0 : Option Addr) (c0 : Nat) (l : List EdP) (A1 : Option Addr) (c1 : Nat) (r : List Vl) (w : World) (hr0 : Kd.C kE w A0 l.length l) (hc0 : l.length ≤ c0) (hr1 : Kd.C kV w A1 r.length r) (hc1 : r.length ≤ c1) (hl : l.length ≤ 1000000) (hr : ∀ e ∈ l, e.f0.length ≤ 4398046511104) :
  Calls Tryz.prog 26 #[.slice A0 l.length c0, .slice A1 r.length c1] w fun e w' => ∃ A c, e = .returned (.slice A (jumpsOf l r).length c) ∧ Kd.C kJ w' A (jumpsOf l r).length (jumpsOf l r) ∧ (jumpsOf l r).length ≤ c ∧ Below w.heap.size w w' := by
 obtain ⟨k, hk⟩ := (jumps10 l r hr hl).get; refine (r10_Jumps.calls k A0 c0 l A1 c1 r _ w hr0 hc0 hr1 hc1 hk).mono ?_; rintro e w' ⟨v, rfl, hR, hb⟩; obtain ⟨A, c, rfl⟩ := Kd.R_slice hR; exact ⟨A, c, rfl, (Kd.R_reads' hR).2.2, (Kd.R_reads' hR).2.1, hb⟩
theorem value_any (A : Option Addr) (c : Nat) (f : List Jp) (p : Int) (w : World) (hr : Kd.C kJ w A f.length f) (hc : f.length ≤ c) (hf : Fair f) (hl : f.length ≤ 1000000) :
  Calls Tryz.prog 25 #[.slice A f.length c, .int .i64 p] w fun e w' => e = .returned (.int .i64 (valI f p)) ∧ Below w.heap.size w w' := by
 obtain ⟨k, hk⟩ := (value09 f p hf hl).get; exact (r09_Value.calls k A c f p _ w hr hc hk).mono fun e w' z => ⟨z.1, z.2.below⟩
theorem MayP.fairJ {l : List EdP} (h : MayP l) (r : List Vl) : Fair (jumpsOf l r) := fun j hj => okFair ((mayJ_parts (h.jumps r)).2.1 j hj).2.2.2
theorem ticks_calls (fA : PDd.linear_Filter.f [e1, e2, e3] lxw = some ([e3], 0)) (fB : PDd.linear_Project.f [e1, e2, e3] [pxw] = some ([⟨[⟨1, 7, ⟨#[]⟩⟩], 2, 1⟩], 0))
  (A0 : Option Addr) (c0 : Nat) (l : List EdP) (A1 : Option Addr) (c1 : Nat) (x : List Op8) (A2 : Option Addr) (c2 : Nat) (xs : List (List Op8)) (t : Int) (w : World)
  (hr0 : Kd.C kE w A0 l.length l) (hc0 : l.length ≤ c0) (hr1 : Kd.C kO w A1 x.length x) (hc1 : x.length ≤ c1) (hr2 : Kd.C (Kd.slice 68 kO) w A2 xs.length xs) (hc2 : xs.length ≤ c2)
  (ha : PDd.okEs l = true) (hx : PDd.okXs x = true) (hxs : xs.all PDd.okXs = true) :
  Calls Tryz.prog 5 #[.slice A0 l.length c0, .slice A1 x.length c1, .slice A2 xs.length c2, .int .i64 t] w fun e w' => e = .returned (.bool true) ∧ Below w.heap.size w w' := by
 have LV := Lib.hid (fun w1 => live_calls w1 fA fB); have FIN := Lib.hid (show ∀ w9, Below w.heap.size w w9 → Calls Tryz.prog 17 #[] w9 fun e w' => e = .returned (.bool true) ∧ Below w.heap.size w w' from fun w9 h => (LV.out w9).mono fun e w' z => ⟨z.1, h.trans (z.2.mono h.size)⟩)
 by_cases h200 : l.length ≤ 200
 case neg =>
  have q : decide ((l.length : Int) > 200) = true := decide_eq_true zq4; clear hr0 hr1 hr2 ha hx hxs fA fB; go_enter Tryz.func5, Tryz.ntmps5
  go_wp2_with fail
  refine (FIN.out _ (Below.refl _ _)).mono ?_; rintro e w9 ⟨rfl, hb9⟩; go_wp2; go_ret; exact ⟨rfl, hb9⟩
 case pos =>
 have FA := Lib.hid (filter_any A0 c0 l A1 c1 x w hr0 hc0 hr1 hc1 ha hx); have PA := Lib.hid (fun (w1 : World) (h : Below w.heap.size w w1) => project_any A0 c0 l A2 c2 xs w1 (Kd.C_below hr0 h) hc0 (Kd.C_below hr2 h) hc2 ha hxs); have wl := PDd.okEs_row ha; have TL := Lib.hid (fun (w1 : World) (h : Below w.heap.size w w1) => Table_calls A0 c0 l w1 (Kd.C_below hr0 h) wl); have EX := PDd.okX ha hx; have HC := Lib.hid (fun (e0 : EdP) (he : e0 ∈ l) (A : Option Addr) (c : Nat) (w1 : World) (h : Below w.heap.size w w1) (hR : Kd.C kV w1 A e0.f0.length e0.f0) (hc : e0.f0.length ≤ c) => (show Calls Tryz.prog 24 #[.slice A1 x.length c1, .slice A e0.f0.length c] w1 fun e w' => e = .returned (.tuple #[.bool (EvP.holdsV x e0.f0).1, .int .i64 (EvP.holdsV x e0.f0).2]) ∧ Below w1.heap.size w1 w' from (EvP.holds_E x e0.f0 (EX e0 he)).get.elim fun k hk => eval_Holds.calls k A1 c1 x A c e0.f0 _ _ w1 (Kd.C_below hr1 h) hc1 hR hc hk)); have JL := Lib.hid (fun (A : Option Addr) (c : Nat) (r : List Vl) (w1 : World) (h : Below w.heap.size w w1) (hR : Kd.C kV w1 A r.length r) (hc : r.length ≤ c) => jumps_any A0 c0 l A c r w1 (Kd.C_below hr0 h) hc0 hR hc zq4 wl); have HR := Lib.hid (fun (w1 : World) (h : Below w.heap.size w w1) => Kd.C_below hr0 h); obtain ⟨ra, hra⟩ : ∃ r, filterP (EvP.holdsV x) (EvP.formV x) l = r := ⟨_, rfl⟩
 obtain ⟨qa, hqa⟩ : ∃ r, projD xs l = r := ⟨_, rfl⟩
 have sa := filterP_sub (EvP.holdsV x) (EvP.formV x) l; have ta := projD_sub xs l; have er := filterP_err (hh := EvP.holdsV x) (ef := EvP.formV x) (l := l); rw [hra] at FA sa er; rw [hqa] at PA ta; obtain ⟨fa, ea⟩ := ra; obtain ⟨pb, eb⟩ := qa; have ER := Lib.hid er; have F1 := Lib.hid (show (∀ e ∈ fa, e.f0.length ≤ 4398046511104) ∧ (∀ e ∈ pb, e.f0.length ≤ 4398046511104) ∧ fa.length ≤ 1000000 from ⟨fun e he => wl e (sa.1 e he), fun e he => by have := ta.1 e he; omega, by have := sa.2; simp only at this; omega⟩); obtain ⟨tl, htl⟩ : ∃ b, tableE l = b := ⟨_, rfl⟩
 rw [htl] at TL; have XT := Lib.hid (fun (h : tl = true) => (show (ea = 0 → tableE fa = true) ∧ (eb = 0 → tableE pb = true) from ⟨fun h1 => by subst h1; exact table_filter (htl.trans h) hra, fun h1 => by subst h1; exact table_project (htl.trans h) hqa⟩)); have XF := Lib.hid (fun (h : ea = 0) => filterP_parts (h ▸ hra)); have q : decide ((l.length : Int) > 200) = false := decide_eq_false zq4; clear hr0 hr1 hr2 hc0 hc1 hc2 ha hx hxs hra hqa sa ta er htl EX wl fA fB; go_enter Tryz.func5, Tryz.ntmps5
 go_wp2_with fail
 refine FA.out.mono ?_; rintro e w1 ⟨Aa, ca, rfl, hCa, hca, hb1⟩; have HB1 := Lib.hid hb1; have HA := Lib.hid (fun (w2 : World) (h : Below w1.heap.size w1 w2) => Kd.C_below hCa h); have HCA := Lib.hid hca; clear hCa hca hb1 FA
 go_wp2_with fail
 refine (PA.out w1 HB1.out).mono ?_; rintro e w2 ⟨Ab, cb, rfl, hCb, hcb, hb2⟩; have HD2 := Lib.hid hb2; have HB := Lib.hid (fun (w3 : World) (h : Below w2.heap.size w2 w3) => Kd.C_below hCb h); have HCB := Lib.hid hcb; have HB2 := Lib.hid (HB1.out.trans (hb2.mono HB1.out.size)); clear hCb hcb hb2 PA; have TA := Lib.hid (fun (w3 : World) (h : Below w2.heap.size w2 w3) => Table_calls Aa ca fa w3 (HA.out w3 (HD2.out.trans (h.mono HD2.out.size))) F1.out.1); have TB := Lib.hid (fun (w3 : World) (h : Below w2.heap.size w2 w3) => Table_calls Ab cb pb w3 (HB.out w3 h) F1.out.2.1)
 go_upto_if 52 with (refine SortJ.stopC (n := 52) ?_; intro J hJ)
 refine Met.intro (hJ _ _ ?_)
 go_cut [] (fun wx => Below w2.heap.size w2 wx)
 case first =>
  clear hJ
  go_wp2_with fail
  refine (TL.out w2 HB2.out).mono ?_; rintro e w3 ⟨rfl, hb3⟩; have HD3 := Lib.hid hb3; clear hb3 TL; cases tl with
  | false =>
   go_wp2_with fail
   go_meet
   exact HD3.out
  | true =>
   obtain ⟨t1, t2⟩ := XT.out rfl; have T1 := Lib.hid t1; have T2 := Lib.hid t2; clear t1 t2 XT; have stepB : ∀ w4, Below w2.heap.size w2 w4 → eb = 0 → Calls Tryz.prog 23 #[.slice Ab pb.length cb] w4 fun e w' => e = .returned (.bool true) ∧ Below w2.heap.size w2 w' := fun w4 h h1 => by
    have := TB.out w4 h; rw [T2.out h1] at this; exact this.mono fun e w' z => ⟨z.1, h.trans (z.2.mono h.size)⟩
   have SB := Lib.hid stepB; clear stepB
   by_cases h1 : ea = 0
   ·have TA2 := TA.out w3 HD3.out
    rw [T1.out h1] at TA2; have TA3 := Lib.hid TA2; subst h1; clear TA2
    go_wp2_with fail
    refine TA3.out.mono ?_; rintro e w4 ⟨rfl, hb4⟩; have HD4 := Lib.hid (HD3.out.trans (hb4.mono HD3.out.size)); clear hb4 TA3
    by_cases h2 : eb = 0
    ·have SB2 := Lib.hid (SB.out w4 HD4.out h2)
     subst h2; clear SB
     go_wp2_with fail
     refine SB2.out.mono ?_; rintro e w5 ⟨rfl, hb5⟩; have HD5 := Lib.hid hb5; clear hb5 SB2
     go_wp2_with fail
     go_meet
     exact HD5.out
    ·have q2 : (eb == 0) = false := by simpa using h2
     clear h2
     go_wp2_with fail
     go_meet
     exact HD4.out
   ·have q1 : (ea == 0) = false := by simpa using h1
    clear h1
    by_cases h2 : eb = 0
    ·have SB2 := Lib.hid (SB.out w3 HD3.out h2)
     subst h2; clear SB
     go_wp2_with fail
     refine SB2.out.mono ?_; rintro e w5 ⟨rfl, hb5⟩; have HD5 := Lib.hid hb5; clear hb5 SB2
     go_wp2_with fail
     go_meet
     exact HD5.out
    ·have q2 : (eb == 0) = false := by simpa using h2
     clear h2
     go_wp2_with fail
     go_meet
     exact HD3.out
 case rest =>
 have HD3 := Lib.hid hcut; have HB3 := Lib.hid (HB2.out.trans (hcut.mono HB2.out.size)); clear hcut XT TA TB TL hJ HB
 by_cases h1 : ea = 0
 case neg =>
  have q1 : (ea != 0) = true := by simpa using h1
  have e0 : fa = [] := ER.out h1; subst e0; clear h1
  go_wp2_with fail
  refine (FIN.out _ HB3.out).mono ?_; rintro e w9 ⟨rfl, hb9⟩; have HB9 := Lib.hid hb9; clear hb9; go_wp2; go_ret; exact ⟨rfl, HB9.out⟩
 case pos =>
 obtain ⟨pm, _, p2, p3⟩ := XF.out h1; subst h1; have PM := Lib.hid pm; have P2 := Lib.hid p2; have P3 := Lib.hid p3; have JA := Lib.hid (fun (A : Option Addr) (c : Nat) (r : List Vl) (w4 : World) (h : Below wc.heap.size wc w4) (hR : Kd.C kV w4 A r.length r) (hc : r.length ≤ c) => jumps_any Aa ca fa A c r w4 (HA.out w4 (HD2.out.trans ((HD3.out.trans (h.mono HD3.out.size)).mono HD2.out.size))) HCA.out hR hc F1.out.2.2 F1.out.1); clear pm p2 p3 XF ER HD2
 go_wp2_with fail
 go_loopw [13] (fun v13 wr => ∃ (i : Nat), i ≤ l.length ∧ v13 = .int .i64 (i : Int) ∧ Aside0 (Below wc.heap.size wc wr)) (fun v13 wr => l.length - (intOf v13).toNat)
 case atStart => exact ⟨0, Nat.zero_le _, rfl, ⟨Below.refl _ _⟩⟩
 case round =>
  obtain ⟨i, hi, rfl, HBr⟩ := hrel; have HBw := Lib.hid (HB3.out.trans (HBr.out.mono HB3.out.size))
  by_cases c : i < l.length
  ·obtain ⟨X, hX⟩ : ∃ X, l[i] = X := ⟨_, rfl⟩
   obtain ⟨ad, Ax, cx, e1, x0, _, _, x3, x4⟩ := at_T41 (HR.out wr HBw.out) (i : Int) zq4 zq4; rw [Int.toNat_natCast, rdE l i c, hX] at x0; rw [rdE l i c, hX] at x3 x4; cases e1; have hm : X ∈ l := by rw [← hX]; exact List.getElem_mem c
   have V := HC.out X hm Ax cx wr HBw.out x4 x3; have hp2 := P2.out X hm; obtain ⟨hv, hhv⟩ : ∃ z, EvP.holdsV x X.f0 = z := ⟨_, rfl⟩
   rw [hhv] at V hp2; obtain ⟨ok, g⟩ := hv; simp only at V hp2; subst hp2; obtain ⟨n, hn⟩ : ∃ n : Int, (if ok = true then valI (jumpsOf l X.f0) t else 0) = n := ⟨_, rfl⟩
   have HN := Lib.hid (show valI (jumpsOf fa X.f0) t = n by
    rw [P3.out, jumpsOf_filter2 (fun r => (EvP.holdsV x r).1), ← hn, hhv]; cases ok <;> rfl)
   have HNL := Lib.hid (fun h : ok = true => (show valI (jumpsOf l X.f0) t = n by rw [← hn, if_pos h])); have HN0 := Lib.hid (fun h : ok = false => (show 0 = n by rw [← hn, h]; rfl)); have FJ := Lib.hid (PM.out.fairJ X.f0); have FJA := Lib.hid (show Fair (jumpsOf fa X.f0) by
    rw [P3.out, jumpsOf_filter2 (fun r => (EvP.holdsV x r).1)]
    split
    ·exact FJ.out
    ·intro j hj; cases hj)
   have LJ := Lib.hid (show (jumpsOf l X.f0).length ≤ 1000000 ∧ (jumpsOf fa X.f0).length ≤ 1000000 from ⟨by have := jumpsOf_len l X.f0; omega, by have := jumpsOf_len fa X.f0; have := F1.out.2.2; omega⟩); have VV := Lib.hid V; have X4 := Lib.hid (fun (w4 : World) (h : Below wr.heap.size wr w4) => Kd.C_below x4 h); have X3 := Lib.hid x3; have X0 := Lib.hid (fun (w4 : World) (h : Below wr.heap.size wr w4) => pw_cell_below h x0); obtain ⟨jl, hjl⟩ : ∃ z, jumpsOf l X.f0 = z := ⟨_, rfl⟩
   obtain ⟨ja, hja⟩ : ∃ z, jumpsOf fa X.f0 = z := ⟨_, rfl⟩
   have JL2 := Lib.hid (fun A c w1 h hR hc => JL.out A c X.f0 w1 h hR hc); have JA2 := Lib.hid (fun A c w1 h hR hc => JA.out A c X.f0 w1 h hR hc); rw [hjl] at JL2 HNL FJ LJ; rw [hja] at JA2 HN FJA LJ; have qi : (i : Int) < (l.length : Int) := by omega
   clear V hhv hn hm x4 x3 hX hjl hja
   go_wp2_with fail
   refine VV.out.mono ?_; rintro e w3 ⟨rfl, hb3⟩; have HD4 := Lib.hid hb3; have HE4 := Lib.hid (HBw.out.trans (hb3.mono HBw.out.size)); have x1 := X0.out w3 hb3; clear hb3 x0 VV
   go_upto_if 77 with (refine SortJ.stopC (n := 77) ?_; intro J hJ)
   refine Met.intro (hJ _ _ ?_)
   go_cut [16] (fun v16 wx => v16 = .int .i64 n ∧ Below wr.heap.size wr wx)
   case first =>
    clear hJ; cases ok with
    | false =>
     have HN1 := Lib.hid (HN0.out rfl); clear HN0 HNL
     go_wp2_with fail
     go_meet
     exact ⟨by rw [← HN1.out], HD4.out⟩
    | true =>
     have hn := HNL.out rfl; have HNn := Lib.hid hn; clear hn HNL HN0
     go_wp2_with fail
     refine (JL2.out Ax cx w3 HE4.out (X4.out w3 HD4.out) X3.out).mono ?_; rintro e w5 ⟨Aj, cj, rfl, hCj, hcj, hb5⟩; have VA := Lib.hid (value_any Aj cj jl t w5 hCj hcj FJ.out LJ.out.1); have HD5 := Lib.hid (HD4.out.trans (hb5.mono HD4.out.size)); clear hCj hcj hb5; rw [HNn.out] at VA
     go_wp2_with fail
     refine VA.out.mono ?_; rintro e w6 ⟨rfl, hb6⟩; have HD6 := Lib.hid (HD5.out.trans (hb6.mono HD5.out.size)); clear hb6 VA
     go_wp2_with fail
     go_meet
     exact ⟨rfl, HD6.out⟩
   case rest =>
   obtain ⟨rfl, hw⟩ := hcut; have HD5 := Lib.hid hw; have HF5 := Lib.hid (HBr.out.trans (hw.mono HBr.out.size)); have x2 := X0.out _ hw; clear hw x1 HD4 HE4 hJ HNL HN0
   go_wp2_with fail
   refine (JA2.out Ax cx _ HF5.out (X4.out _ HD5.out) X3.out).mono ?_; rintro e w5 ⟨Aj, cj, rfl, hCj, hcj, hb5⟩; have VA := Lib.hid (value_any Aj cj ja t w5 hCj hcj FJA.out LJ.out.2); have HF6 := Lib.hid (HF5.out.trans (hb5.mono HF5.out.size)); clear hCj hcj hb5 x2; rw [HN.out] at VA
   go_wp2_with fail
   refine VA.out.mono ?_; rintro e w6 ⟨rfl, hb6⟩; have HF7 := Lib.hid (HF6.out.trans (hb6.mono HF6.out.size)); clear hb6 VA
   go_wp2_with fail
   go_roundw
   case rel => exact ⟨i + 1, by omega, by go_num, ⟨HF7.out⟩⟩
   case measure => simp [intOf]; omega
  ·obtain rfl : i = l.length := by omega
   go_wp2_with fail
   refine (FIN.out _ HBw.out).mono ?_; rintro e w9 ⟨rfl, hb9⟩; have HB9 := Lib.hid hb9; clear hb9; go_wp2; go_ret; exact ⟨rfl, HB9.out⟩
end Go.Proofs.YtmkgecapkeojaaaGreat.Eg
end
section
namespace Go.Proofs.YtmkgecapkeojaaaGreat.Eg
open Go.Proofs.YtmkgecapkeojaaaGreat Go.Proofs.YtmkgecapkeojaaaGreat.PDa Go.Proofs.YtmkgecapkeojaaaGreat.EvP
open Go.RowKit Go.Proofs.YtmkgecapkeojaaaGreatW.PrintWords Go.Proofs.YtmkgecapkeojaaaGreatW.PrintLast Go.Proofs.YtmkgecapkeojaaaGreatW.PrintMore
open Go.Proofs.YtmkgecapkeojaaaGreat.Stp Go.Proofs.YtmkgecapkeojaaaGreat.Rw
theorem ticks_walk (A0 : Option Addr) (c0 : Nat) (l0 : List EdP) (A1 : Option Addr) (c1 : Nat) (l1 : List Op8) (A2 : Option Addr) (c2 : Nat) (l2 : List (List Op8)) (t : Int) (w : World) (hr0 : Kd.C k41 w A0 l0.length l0) (hc0 : l0.length ≤ c0) (h0 : wfEs l0)
  (hr1 : Kd.C k68 w A1 l1.length l1) (hc1 : l1.length ≤ c1) (h1 : wfX l1)
  (hr2 : Kd.C (Kd.slice 68 k68) w A2 l2.length l2) (hc2 : l2.length ≤ c2) (h2 : (∀ x ∈ l2, wfX x) ∧ l2.length * Tryz.prog.bytesOf 24 ≤ 140737488351232) (h3 : R64 t) :
  Calls Tryz.prog 5 #[.slice A0 l0.length c0, .slice A1 l1.length c1, .slice A2 l2.length c2, .int .i64 t] w fun e w' => e = .returned (.bool true) ∧ Below w.heap.size w w' :=
 ticks_calls factA factB A0 c0 l0 A1 c1 l1 A2 c2 l2 t w hr0 hc0 hr1 hc1 hr2 hc2 (okEs_wf h0) (okXs_wf h1) (List.all_eq_true.2 fun x hx => okXs_wf (h2.1 x hx))
end Go.Proofs.YtmkgecapkeojaaaGreat.Eg
end
