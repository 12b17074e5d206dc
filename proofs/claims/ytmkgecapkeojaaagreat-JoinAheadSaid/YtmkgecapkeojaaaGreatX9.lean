/- Texts of this claim, put together by a program: Both, Pl9, Pl9b, Pl10, PlD, Told2, PlR, Concat, SumsP, TicksP, Mul, Join, RunIn, Pairs, JoinP, HSame, Live, LawF, RefPut, RefNorm, RefProj, LawP, Any. -/
import Derived.Test.YtmkgecapkeojaaaGreatX8
import Derived.Scope
import Derived.Deep.DeepCutAuto
set_option linter.unusedVariables false
set_option linter.unusedSimpArgs false
set_option maxHeartbeats 8000000
set_option maxRecDepth 100000
section
namespace Go.Proofs.YtmkgecapkeojaaaGreat.Eg
open Go.Proofs.YtmkgecapkeojaaaGreat Go.Proofs.YtmkgecapkeojaaaGreat.PDa
open Go.RowKit Go.Proofs.YtmkgecapkeojaaaGreatW.PrintWords Go.Proofs.YtmkgecapkeojaaaGreatW.PrintLast Go.Proofs.YtmkgecapkeojaaaGreatW.PrintMore
open Go.Proofs.YtmkgecapkeojaaaGreat.SortM Go.Proofs.YtmkgecapkeojaaaGreat.Run Go.Proofs.YtmkgecapkeojaaaGreat.Stp Go.Proofs.YtmkgecapkeojaaaGreat.Rw
def hdA (f : List Jp) : Int := match f with | [] => 1125899906842624 | x :: _ => x.f0
def mAt (f g : List Jp) : Int := match g with | [] => hdA f | y :: _ => if y.f0 < hdA f then y.f0 else hdA f
def popA (f : List Jp) (t : Int) : Int := match f with | [] => 0 | x :: _ => if x.f0 = t then x.f1 else 0
def popL (f : List Jp) (t : Int) : List Jp := match f with | [] => [] | x :: xs => if x.f0 = t then xs else x :: xs
theorem popL_le (f : List Jp) (t : Int) : (popL f t).length ≤ f.length := by
 unfold popL
 split
 ·exact Nat.le_refl _
 ·split <;> simp
theorem popL_sub {f : List Jp} {t : Int} {j : Jp} (h : j ∈ popL f t) : j ∈ f := by
 unfold popL at h
 split at h
 ·exact h
 ·split at h
  ·exact List.mem_cons_of_mem _ h
  ·exact h
abbrev In50 (f : List Jp) : Prop := ∀ j ∈ f, j.f0 < 1125899906842624 ∧ -1048576 ≤ j.f1 ∧ j.f1 ≤ 1048576
theorem pop_lt {f g : List Jp} (hg : In50 g) (h : 0 < f.length + g.length) : (popL f (mAt f g)).length + (popL g (mAt f g)).length < f.length + g.length := by
 have h1 := popL_le f (mAt f g); have h2 := popL_le g (mAt f g); have key : (popL f (mAt f g)).length < f.length ∨ (popL g (mAt f g)).length < g.length := by
  unfold mAt; cases g with
  | nil =>
   cases f with
   | nil => simp at h
   | cons x xs => left; simp [popL, hdA]
  | cons y ys =>
   simp only
   split
   ·right; simp [popL]
   ·rename_i c
    cases f with
    | nil => exact absurd (hg y List.mem_cons_self).1 c
    | cons x xs => left; simp [popL, hdA]
 omega
def stJ (t v was : Int) : List Jp := if v ≠ was then [⟨t, v - was⟩] else []
def bothL (op : Int → Int → Int) : Nat → List Jp → List Jp → Int → Int → Int → List Jp
 | 0, _, _, _, _, _ => []
 | k + 1, f, g, a, b, was => if f.length + g.length = 0 then [] else
   stJ (mAt f g) (op (a + popA f (mAt f g)) (b + popA g (mAt f g))) was ++ bothL op k (popL f (mAt f g)) (popL g (mAt f g)) (a + popA f (mAt f g)) (b + popA g (mAt f g)) (op (a + popA f (mAt f g)) (b + popA g (mAt f g)))
theorem popA_bd {f : List Jp} (h : In50 f) (t a M : Int) (h1 : a + 1048576 * (f.length : Int) ≤ M) (h2 : -M ≤ a - 1048576 * (f.length : Int)) : a + popA f t + 1048576 * ((popL f t).length : Int) ≤ M ∧ -M ≤ a + popA f t - 1048576 * ((popL f t).length : Int) := by
 unfold popA popL
 split
 ·simp at h1 h2 ⊢; omega
 ·rename_i x xs
  have hx := h x List.mem_cons_self; simp only [List.length_cons] at h1 h2
  split
  ·omega
  ·simp only [List.length_cons]; omega
def bothV (op : Int → Int → Int) (f g : List Jp) : List Jp × Int := if (mayJ f && mayJ g) = true then toldJ (bothL op (f.length + g.length) f g 0 0 0) else ([], 2)
theorem add0 (ad : Addr) : ad.add 0 = ad := if_pos rfl
theorem at0 {w : World} {A : Option Addr} {n : Nat} {x : Jp} {xs : List Jp} (h : Kd.C kJ w A n (x :: xs)) (hn : 0 < n) : ∃ ad, A = some ad ∧ w.cell? ad = some (.int .i64 x.f0) ∧ w.cell? ⟨ad.block, ad.off + 1, none⟩ = some (.int .i64 x.f1) := by
 obtain ⟨ad, e1, x0, x1⟩ := at_T85 h ((0 : Nat) : Int) zq4 zq4; rw [rdJt (x :: xs) 0 zq30, Int.toNat_natCast, Nat.zero_mul, add0] at x0 x1; exact ⟨ad, e1, x0, x1⟩
theorem drop1 {w : World} {ad : Addr} {n d : Nat} {x : Jp} {xs : List Jp} (h : Kd.C kJ w (some ad) n (x :: xs)) (hn : xs.length + 1 = n) (hd : n ≤ d) :
  ∃ A2, (∀ W : World, (Instr.slice 43 (.slice (some ad) n d) (some (.int .i64 1)) none none).run Tryz.prog W = .ok (.slice A2 (n - 1) (d - 1)) W) ∧ Kd.C kJ w A2 (n - 1) xs := by
 refine ⟨if d = 1 then some ad else (some ad).map (·.add (1 * 2)), fun W => ?_, ?_⟩
 ·exact cut_from (P := Tryz.prog) 43 85 .i64 zq17 rfl 2 rfl (some ad) n d 1 zq4 zq4 W
 ·subst hn
  exact Kd.C_drop (k := kJ) (c := d) (m := 1) h zq30 hd
theorem both_calls (op : Int → Int → Int) (M : Int) (hM : M ≤ 2305843009213693952) (fn : Nat) (A0 A1 : Option Addr) (c0 c1 : Nat) (f g : List Jp) (w : World) (hr0 : Kd.C kJ w A0 f.length f) (hc0 : f.length ≤ c0) (hr1 : Kd.C kJ w A1 g.length g) (hc1 : g.length ≤ c1)
  (hfn : ∀ args w, (callFunc fn args).run Tryz.prog w = .ok (.enter fn args) w)
  (hop : ∀ (a b : Int) (w1 : World), -1073741824 ≤ a → a ≤ 1073741824 → -1073741824 ≤ b → b ≤ 1073741824 → Calls Tryz.prog fn #[.int .i64 a, .int .i64 b] w1 fun e w' => e = .returned (.int .i64 (op a b)) ∧ w1 = w')
  (hob : ∀ a b : Int, -1073741824 ≤ a → a ≤ 1073741824 → -1073741824 ≤ b → b ≤ 1073741824 → -M ≤ op a b ∧ op a b ≤ M) :
  Calls Tryz.prog 123 #[.slice A0 f.length c0, .slice A1 g.length c1, .func (.func fn) #[] #[]] w fun e w' => ∃ v, e = .returned (.tuple #[v, .int .i64 (bothV op f g).2]) ∧ Kd.R kJ tJ w' w.heap.size (fun _ => True) v (bothV op f g).1 ∧ Below w.heap.size w w' := by
 have hu43 := Tryz.underlying43; have MF := Lib.hid (may_any A0 c0 f w hr0 hc0); have MG := Lib.hid (fun (w1 : World) (h : Below w.heap.size w w1) => may_any A1 c1 g w1 (Kd.C_below hr1 h) hc1); have HR0 := Lib.hid hr0; have HR1 := Lib.hid hr1; have HC0 := Lib.hid hc0; have HC1 := Lib.hid hc1; have HOP := Lib.hid hop; have HOB := Lib.hid hob; have HMM := Lib.hid hM; clear hr0 hr1 hc0 hc1 hop hob hM; cases hmf : mayJ f with
 | false =>
  rw [hmf] at MF; have HV := Lib.hid (show bothV op f g = ([], 2) by unfold bothV; rw [hmf]; rfl); clear hmf; go_enter Tryz.func123, Tryz.ntmps123
  go_wp2_with fail
  refine MF.out.mono ?_; rintro e w1 ⟨rfl, hb⟩; go_wp2; go_ret2; exact ⟨.slice none 0 0, by rw [HV.out]; rfl, by rw [HV.out]; exact Kd.R_nil _ _ _ _ _, hb⟩
 | true =>
 rw [hmf] at MF; cases hmg : mayJ g with
 | false =>
  rw [hmg] at MG; have HV := Lib.hid (show bothV op f g = ([], 2) by unfold bothV; rw [hmg, Bool.and_false]; rfl); clear hmf hmg; go_enter Tryz.func123, Tryz.ntmps123
  go_wp2_with fail
  refine MF.out.mono ?_; rintro e w1 ⟨rfl, hb⟩; have HB := Lib.hid hb; clear hb
  go_wp2_with fail
  refine (MG.out w1 HB.out).mono ?_; rintro e w2 ⟨rfl, hb⟩; have HB2 := Lib.hid (HB.out.trans (hb.mono HB.out.size)); clear hb; go_wp2; go_ret2; exact ⟨.slice none 0 0, by rw [HV.out]; rfl, by rw [HV.out]; exact Kd.R_nil _ _ _ _ _, HB2.out⟩
 | true =>
 rw [hmg] at MG; have HV := Lib.hid (show bothV op f g = toldJ (bothL op (f.length + g.length) f g 0 0 0) by unfold bothV; rw [hmf, hmg]; rfl); obtain ⟨lf, pf, _⟩ := mayJ_parts hmf; obtain ⟨lg, pg, _⟩ := mayJ_parts hmg; have IF := Lib.hid (show In50 f from fun j hj => ⟨(pf j hj).2.1, okFair (pf j hj).2.2.2⟩); have IG := Lib.hid (show In50 g from fun j hj => ⟨(pg j hj).2.1, okFair (pg j hj).2.2.2⟩); obtain ⟨R, hR⟩ : ∃ R, bothL op (f.length + g.length) f g 0 0 0 = R := ⟨_, rfl⟩
 rw [hR] at HV; obtain ⟨nf, hnf⟩ : ∃ n, f.length = n := ⟨_, rfl⟩
 obtain ⟨ng, hng⟩ : ∃ n, g.length = n := ⟨_, rfl⟩
 rw [hnf, hng] at hR; have HR := Lib.hid hR; rw [hnf] at HR0 HC0 lf MF ⊢; rw [hng] at HR1 HC1 lg MG ⊢; have HNF := Lib.hid hnf; have HNG := Lib.hid hng; clear hmf hmg pf pg hR hnf hng; go_enter Tryz.func123, Tryz.ntmps123
 go_wp2_with fail
 refine MF.out.mono ?_; rintro e w1 ⟨rfl, hb⟩; have HB := Lib.hid hb; clear hb MF
 go_wp2_with fail
 refine (MG.out w1 HB.out).mono ?_; rintro e w2 ⟨rfl, hb⟩; have HB2 := Lib.hid (HB.out.trans (hb.mono HB.out.size)); clear hb MG HB
 go_wp2_with (first | ((with_reducible refine gate_dst (N := 22) rfl ?_); refine Kd.R_lit kJ _ 85 ?hg (N := 22) ?hd (xs := ([] : List Jp)) (inner := []) (ok := fun _ => True) (okp := fun _ => True) ?hr ?hp (fun _ hk => hk) trivial (Below.refl _ _) (Nat.le_refl _) zq30 ?_; (case hd => rfl); (case hg => rfl); (case hr => first | (go_simp; done) | (go_simp; rfl)); (case hp => exact (Reps.none _ _)); intro v22 w3 ho3 hb3 hg_ hnew_; have HO3 := Lib.hid (Kd.R_lower ho3 HB2.out.size); have HB3 := Lib.hid (HB2.out.trans (hb3.mono HB2.out.size)); clear hg_ hnew_ hb3 ho3))
 go_loopg [0, 1, 8, 9, 10, 11] (nf + ng) (fun kq u0 u1 u8 u9 u10 u11 wr => ∃ (f' g' : List Jp) (out : List Jp) (a b was : Int) (B0 B1 : Option Addr) (d0 d1 n0 n1 : Nat), u0 = .slice B0 n0 d0 ∧ u1 = .slice B1 n1 d1 ∧ u9 = .int .i64 a ∧ u10 = .int .i64 b ∧ u11 = .int .i64 was ∧
  n0 + n1 ≤ kq ∧ n0 ≤ 1024 ∧ n1 ≤ 1024 ∧ a + 1048576 * (n0 : Int) ≤ 1073741824 ∧ -1073741824 ≤ a - 1048576 * (n0 : Int) ∧ b + 1048576 * (n1 : Int) ≤ 1073741824 ∧ -1073741824 ≤ b - 1048576 * (n1 : Int) ∧
  Aside0 (f'.length = n0 ∧ g'.length = n1 ∧ In50 f' ∧ In50 g' ∧ -M ≤ was ∧ was ≤ M ∧ out.length + kq ≤ nf + ng ∧ n0 ≤ d0 ∧ n1 ≤ d1) ∧ Aside0 (out ++ bothL op kq f' g' a b was = R) ∧ Aside0 (Kd.C kJ w B0 n0 f') ∧ Aside0 (Kd.C kJ w B1 n1 g') ∧ Aside0 (Kd.R kJ tJ wr w.heap.size (fun _ => True) u8 out) ∧ Aside0 (Below w.heap.size w wr))
 case atStart => exact ⟨f, g, [], 0, 0, 0, A0, A1, c0, c1, nf, ng, rfl, rfl, rfl, rfl, rfl, Nat.le_refl _, lf, lg, by omega, by omega, by omega, by omega, ⟨⟨HNF.out, HNG.out, IF.out, IG.out, by have := HOB.out 0 0; omega, by have := HOB.out 0 0; omega, by simp, HC0.out, HC1.out⟩⟩, ⟨HR.out⟩, ⟨HR0.out⟩, ⟨HR1.out⟩, ⟨HO3.out⟩, ⟨HB3.out⟩⟩
 case round =>
  obtain ⟨f', g', out, a, b, was, B0, B1, d0, d1, n0, n1, rfl, rfl, rfl, rfl, rfl, hk, l0, l1, a1, a2, b1, b2, HS, HE, HF, HG, HO, HB⟩ := hrel
  by_cases hz : n0 + n1 = 0
  ·have q0 : decide (0 < n0) = false := decide_eq_false zq4
   have q1 : decide (0 < n1) = false := decide_eq_false zq4; have HRO := Lib.hid (show out = R by
    have h := HE.out; have hs := HS.out; cases gk with
    | zero => rw [bothL, List.append_nil] at h; exact h
    | succ k1 => rw [bothL, if_pos zq4, List.append_nil] at h; exact h)
   have TC := Lib.hid (step_told.calls (out.length + 1) (fun _ => True) _ out _ _ w wr HB.out HO.out (told_f out)); rw [HRO.out, ← HV.out] at TC; clear HE HF HG hz
   go_wp2_with (go_at_call 115; (with_reducible refine TC.out.mono ?_); rintro e w5 ⟨v5, rfl, hR, hb5, _⟩; have HR5 := Lib.hid hR; have HB5 := Lib.hid hb5; clear hR hb5)
   go_ret2; exact ⟨v5, rfl, Kd.R_mono HR5.out (fun _ _ => trivial), HB5.out⟩
  ·cases gk with
   | zero => exact absurd hk zq4
   | succ k1 =>
   obtain ⟨z, hz2⟩ : ∃ z, mAt f' g' = z := ⟨_, rfl⟩
   obtain ⟨z1, hz1⟩ : ∃ z1, hdA f' = z1 := ⟨_, rfl⟩
   have HZ := Lib.hid hz2; have HZ1 := Lib.hid hz1; have HWW := Lib.hid (Below.refl wr.heap.size wr); have HSF := Lib.hid (show f'.length = n0 ∧ n0 ≤ d0 from ⟨HS.out.1, HS.out.2.2.2.2.2.2.2.1⟩); have HSG := Lib.hid (show g'.length = n1 ∧ n1 ≤ d1 from ⟨HS.out.2.1, HS.out.2.2.2.2.2.2.2.2⟩); have HIF := Lib.hid HS.out.2.2.1; have HIG := Lib.hid HS.out.2.2.2.1; clear hz1 hz2
   go_upto_region 5 with fail
   go_cut [30] (fun v wx => v = .bool true ∧ wr = wx)
   case first =>
    by_cases h : 0 < n0
    ·have q0 : decide (0 < n0) = true := decide_eq_true h
     go_wp2_with fail
     go_meet
     exact ⟨rfl, rfl⟩
    ·have q0 : decide (0 < n0) = false := decide_eq_false h
     have q1 : decide (0 < n1) = true := decide_eq_true zq4; clear h
     go_wp2_with fail
     go_meet
     exact ⟨rfl, rfl⟩
   case rest =>
   obtain ⟨rfl, rfl⟩ := hcut; have HNZ := Lib.hid hz; clear hz
   go_upto_if 33 with (refine SortJ.stopC (n := 33) ?_; intro J hJ)
   refine Met.intro (hJ _ _ ?_)
   go_cut [12] (fun v wx => v = .int .i64 z1 ∧ wr = wx)
   case first =>
    clear hJ; have HX := Lib.hid HF.out; have hs := HSF.out; have HZ2 := Lib.hid HZ1.out; cases f' with
    | nil =>
     have q0 : decide (0 < n0) = false := decide_eq_false (by have := hs.1; simp at this; omega); clear hs
     go_wp2_with fail
     go_meet
     exact ⟨congrArg _ HZ2.out, rfl⟩
    | cons x xs =>
     have hn : xs.length + 1 = n0 := hs.1; have q0 : decide (0 < n0) = true := decide_eq_true zq4; obtain ⟨ad, e1, x0, x1⟩ := at0 (Kd.C_below HX.out HB.out) zq4; cases e1; have qi : 0 < n0 := by omega
     clear hs hn x1
     go_wp2_with fail
     go_meet
     exact ⟨congrArg _ HZ2.out, rfl⟩
   case rest =>
   obtain ⟨rfl, rfl⟩ := hcut; clear hJ
   go_upto_if 40 with (refine SortJ.stopC (n := 40) ?_; intro J hJ)
   refine Met.intro (hJ _ _ ?_)
   go_cut [12] (fun v wx => v = .int .i64 z ∧ wr = wx)
   case first =>
    clear hJ; have HX := Lib.hid HG.out; have hs := HSG.out; have HZ2 := Lib.hid (show mAt f' g' = z from HZ.out); have HZ3 := Lib.hid HZ1.out; cases g' with
    | nil =>
     have q0 : decide (0 < n1) = false := decide_eq_false (by have := hs.1; simp at this; omega); clear hs
     go_wp2_with fail
     go_meet
     exact ⟨congrArg _ (HZ3.out.symm.trans HZ2.out), rfl⟩
    | cons x xs =>
     have hn : xs.length + 1 = n1 := hs.1; have q0 : decide (0 < n1) = true := decide_eq_true zq4; obtain ⟨ad, e1, x0, x1⟩ := at0 (Kd.C_below HX.out HB.out) zq4; cases e1; have qi : 0 < n1 := by omega
     have HZ4 := Lib.hid (show (if x.f0 < z1 then x.f0 else z1) = z by rw [← HZ2.out, ← HZ3.out]; rfl); clear hs hn x1
     by_cases cl : x.f0 < z1
     ·have HZ5 := Lib.hid (show x.f0 = z by rw [← HZ4.out, if_pos cl])
      go_wp2_with fail
      go_meet
      exact ⟨congrArg _ HZ5.out, rfl⟩
     ·have HZ5 := Lib.hid (show z1 = z by rw [← HZ4.out, if_neg cl])
      go_wp2_with fail
      go_meet
      exact ⟨congrArg _ HZ5.out, rfl⟩
   case rest =>
   obtain ⟨rfl, rfl⟩ := hcut; clear hJ
   go_upto_if 57 with (refine SortJ.stopC (n := 57) ?_; intro J hJ)
   refine Met.intro (hJ _ _ ?_)
   go_cut [9, 0] (fun va vs wx => ∃ (A : Option Addr) (c n : Nat), va = .int .i64 (a + popA f' z) ∧ vs = .slice A n c ∧ Aside0 ((popL f' z).length = n ∧ n ≤ c) ∧ Aside0 (Kd.C kJ w A n (popL f' z)) ∧ Aside0 (Below wr.heap.size wr wx))
   case first =>
    clear hJ; have HX := Lib.hid HF.out; have hs := HSF.out; have HI := Lib.hid HIF.out; cases f' with
    | nil =>
     have q0 : decide (0 < n0) = false := decide_eq_false (by have := hs.1; simp at this; omega); clear hs
     go_wp2_with fail
     go_meet
     exact ⟨B0, d0, n0, by simp [popA], rfl, ⟨HSF.out⟩, ⟨HX.out⟩, ⟨Below.refl _ _⟩⟩
    | cons x xs =>
     have hn : xs.length + 1 = n0 := hs.1; have q0 : decide (0 < n0) = true := decide_eq_true zq4; obtain ⟨ad, e1, x0, x1⟩ := at0 (Kd.C_below HX.out HB.out) zq4; cases e1; have hx := (HI.out x List.mem_cons_self).2; have qi : 0 < n0 := by omega
     by_cases ce : x.f0 = z
     ·have e2 : (x.f0 == z) = true := by simpa using ce
      have HP := Lib.hid (show popA (x :: xs) z = x.f1 ∧ popL (x :: xs) z = xs by unfold popA popL; simp only; rw [if_pos ce, if_pos ce]; exact ⟨rfl, rfl⟩); obtain ⟨A2, hcut, hD⟩ := drop1 HX.out hn hs.2; have HD := Lib.hid hD; have HND := Lib.hid (show xs.length = n0 - 1 ∧ n0 - 1 ≤ d0 - 1 from ⟨by omega, by have := hs.2; omega⟩); have qs : a + x.f1 ≤ 9223372036854775807 := by omega
      have qt : -9223372036854775808 ≤ a + x.f1 := by omega
      clear hs hn hD ce HX
      go_wp2_with fail
      go_quiet (fail)
      go_wp2_with fail
      go_meet
      exact ⟨A2, d0 - 1, n0 - 1, by rw [HP.out.1], rfl, ⟨by rw [HP.out.2]; exact HND.out⟩, ⟨by rw [HP.out.2]; exact HD.out⟩, ⟨pw_below_drewN (Below.refl _ _) _⟩⟩
     ·have e2 : (x.f0 == z) = false := by simpa using ce
      have HP := Lib.hid (show popA (x :: xs) z = 0 ∧ popL (x :: xs) z = x :: xs by unfold popA popL; simp only; rw [if_neg ce, if_neg ce]; exact ⟨rfl, rfl⟩); clear hs hn ce
      go_wp2_with fail
      go_meet
      exact ⟨some ad, d0, n0, by rw [HP.out.1, Int.add_zero], rfl, ⟨by rw [HP.out.2]; exact HSF.out⟩, ⟨by rw [HP.out.2]; exact HX.out⟩, ⟨Below.refl _ _⟩⟩
   case rest =>
   obtain ⟨C0, e0, m0, rfl, rfl, HSF2, HF2, HB2⟩ := hcut; clear hJ; have HBW := Lib.hid (HB.out.trans (HB2.out.mono HB.out.size))
   go_upto_if 76 with (refine SortJ.stopC (n := 76) ?_; intro J hJ)
   refine Met.intro (hJ _ _ ?_)
   go_cut [10, 1] (fun va vs wy => ∃ (A : Option Addr) (c n : Nat), va = .int .i64 (b + popA g' z) ∧ vs = .slice A n c ∧ Aside0 ((popL g' z).length = n ∧ n ≤ c) ∧ Aside0 (Kd.C kJ w A n (popL g' z)) ∧ Aside0 (Below wc.heap.size wc wy))
   case first =>
    clear hJ; have HX := Lib.hid HG.out; have hs := HSG.out; have HI := Lib.hid HIG.out; cases g' with
    | nil =>
     have q0 : decide (0 < n1) = false := decide_eq_false (by have := hs.1; simp at this; omega); clear hs
     go_wp2_with fail
     go_meet
     exact ⟨B1, d1, n1, by simp [popA], rfl, ⟨HSG.out⟩, ⟨HX.out⟩, ⟨Below.refl _ _⟩⟩
    | cons x xs =>
     have hn : xs.length + 1 = n1 := hs.1; have q0 : decide (0 < n1) = true := decide_eq_true zq4; obtain ⟨ad, e1, x0, x1⟩ := at0 (Kd.C_below HX.out HBW.out) zq4; cases e1; have hx := (HI.out x List.mem_cons_self).2; have qi : 0 < n1 := by omega
     by_cases ce : x.f0 = z
     ·have e2 : (x.f0 == z) = true := by simpa using ce
      have HP := Lib.hid (show popA (x :: xs) z = x.f1 ∧ popL (x :: xs) z = xs by unfold popA popL; simp only; rw [if_pos ce, if_pos ce]; exact ⟨rfl, rfl⟩); obtain ⟨A2, hcut, hD⟩ := drop1 HX.out hn hs.2; have HD := Lib.hid hD; have HND := Lib.hid (show xs.length = n1 - 1 ∧ n1 - 1 ≤ d1 - 1 from ⟨by omega, by have := hs.2; omega⟩); have qs : b + x.f1 ≤ 9223372036854775807 := by omega
      have qt : -9223372036854775808 ≤ b + x.f1 := by omega
      clear hs hn hD ce HX
      go_wp2_with fail
      go_quiet (fail)
      go_wp2_with fail
      go_meet
      exact ⟨A2, d1 - 1, n1 - 1, by rw [HP.out.1], rfl, ⟨by rw [HP.out.2]; exact HND.out⟩, ⟨by rw [HP.out.2]; exact HD.out⟩, ⟨pw_below_drewN (Below.refl _ _) _⟩⟩
     ·have e2 : (x.f0 == z) = false := by simpa using ce
      have HP := Lib.hid (show popA (x :: xs) z = 0 ∧ popL (x :: xs) z = x :: xs by unfold popA popL; simp only; rw [if_neg ce, if_neg ce]; exact ⟨rfl, rfl⟩); clear hs hn ce
      go_wp2_with fail
      go_meet
      exact ⟨some ad, d1, n1, by rw [HP.out.1, Int.add_zero], rfl, ⟨by rw [HP.out.2]; exact HSG.out⟩, ⟨by rw [HP.out.2]; exact HX.out⟩, ⟨Below.refl _ _⟩⟩
   case rest =>
   obtain ⟨C1, e1, m1, rfl, rfl, HSG2, HG3, HB3⟩ := hcut; clear hJ; have HB4 := Lib.hid (HB2.out.trans (HB3.out.mono HB2.out.size)); have hsf := HS.out; have hF := HSF2.out; have hG := HSG2.out; have pA := popA_bd HIF.out z a 1073741824 (by rw [hsf.1]; exact a1) (by rw [hsf.1]; exact a2); have pB := popA_bd HIG.out z b 1073741824 (by rw [hsf.2.1]; exact b1) (by rw [hsf.2.1]; exact b2); rw [hF.1] at pA; rw [hG.1] at pB; have hlt := pop_lt HIG.out (f := f') (by rw [hsf.1, hsf.2.1]; have := HNZ.out; omega); rw [HZ.out, hF.1, hG.1, hsf.1, hsf.2.1] at hlt; have hE := HE.out; rw [bothL, if_neg (by rw [hsf.1, hsf.2.1]; exact HNZ.out), HZ.out] at hE; obtain ⟨p, hp⟩ : ∃ p, a + popA f' z = p := ⟨_, rfl⟩
   obtain ⟨q, hq⟩ : ∃ q, b + popA g' z = q := ⟨_, rfl⟩
   rw [hp, hq] at hE; rw [hp] at pA; rw [hq] at pB; rw [hp, hq]; have mf := popL_le f' z; have mg := popL_le g' z; rw [hF.1, hsf.1] at mf; rw [hG.1, hsf.2.1] at mg; have hov := HOB.out p q zq4 zq4 zq4 zq4; have CO := HOP.out p q wc zq4 zq4 zq4 zq4; obtain ⟨v, hv⟩ : ∃ v, op p q = v := ⟨_, rfl⟩
   rw [hv] at hE hov CO; have COH := Lib.hid CO; have HE2 := Lib.hid hE; have HRL := Lib.hid (show m0 + m1 ≤ k1 ∧ m0 ≤ 1024 ∧ m1 ≤ 1024 ∧ p + 1048576 * (m0 : Int) ≤ 1073741824 ∧ -1073741824 ≤ p - 1048576 * (m0 : Int) ∧ q + 1048576 * (m1 : Int) ≤ 1073741824 ∧ -1073741824 ≤ q - 1048576 * (m1 : Int) by omega); have HIN := Lib.hid (show In50 (popL f' z) ∧ In50 (popL g' z) from ⟨fun j hj => HIF.out j (popL_sub hj), fun j hj => HIG.out j (popL_sub hj)⟩); have HOV := Lib.hid hov; have HOL := Lib.hid (show out.length + 1 + k1 ≤ nf + ng ∧ nf ≤ 1024 ∧ ng ≤ 1024 from ⟨by have := hsf.2.2.2.2.2.2.1; omega, lf, lg⟩); have HWAS := Lib.hid (show -M ≤ was ∧ was ≤ M from ⟨hsf.2.2.2.2.1, hsf.2.2.2.2.2.1⟩); have hd1 : v - was ≤ 9223372036854775807 := by have := HMM.out; have := HWAS.out; omega
   have hd2 : -9223372036854775808 ≤ v - was := by have := HMM.out; have := HWAS.out; omega
   have HO4 := Lib.hid (Kd.R_below HO.out HB4.out); have HB5 := Lib.hid (HB.out.trans (HB4.out.mono HB.out.size)); clear hsf pA pB hlt hE hp hq mf mg hov CO hv hF hG a1 a2 b1 b2 hk HS HE HF HG HO HB l0 l1
   by_cases cv : v = was
   ·have qv : (v != was) = false := by simpa using cv
    have HE3 := Lib.hid (show out ++ bothL op k1 (popL f' z) (popL g' z) p q was = R by have h := HE2.out; unfold stJ at h; rw [if_neg (fun h2 => h2 cv), List.nil_append, cv] at h; exact h); clear cv
    go_wp2_with fail
    refine COH.out.mono ?_; rintro e w6 ⟨rfl, rfl⟩
    go_wp2_with fail
    go_roundg k1
    case measure => omega
    case rel => exact ⟨popL f' z, popL g' z, out, p, q, was, C0, C1, e0, e1, m0, m1, rfl, rfl, rfl, rfl, rfl, HRL.out.1, HRL.out.2.1, HRL.out.2.2.1, HRL.out.2.2.2.1, HRL.out.2.2.2.2.1, HRL.out.2.2.2.2.2.1, HRL.out.2.2.2.2.2.2, ⟨⟨HSF2.out.1, HSG2.out.1, HIN.out.1, HIN.out.2, HWAS.out.1, HWAS.out.2, by have := HOL.out; omega, HSF2.out.2, HSG2.out.2⟩⟩, ⟨HE3.out⟩, ⟨HF2.out⟩, ⟨HG3.out⟩, ⟨HO4.out⟩, ⟨HB5.out⟩⟩
   ·have qv : (v != was) = true := by simpa using cv
    have HE3 := Lib.hid (show (out ++ [⟨z, v - was⟩]) ++ bothL op k1 (popL f' z) (popL g' z) p q v = R by have h := HE2.out; unfold stJ at h; rw [if_pos cv] at h; rw [List.append_assoc]; exact h); clear cv
    go_wp2_with fail
    refine COH.out.mono ?_; rintro e w6 ⟨rfl, rfl⟩
    go_wp2_with (at_builtin; (refine Kd.R_append kJ (w0 := w) w.heap.size rfl _ _ 43 85 (.agg #[(.int .i64 0), (.int .i64 0)]) 16 rfl hu43 info85 rfl zq34 zq4 u8 out ⟨z, v - was⟩ [.int .i64 z, .int .i64 (v - was)] (fun _ => True) (fun _ => False) rfl (by first | rfl | (rw [World.size_alloc]; rfl)) ?aP (fun _ h => h.elim) (fun _ _ => trivial) ?aO ?aB ?aS ?aL ?_))
    case aP => exact k85_mkM _ _ _ ⟨z, v - was⟩
    case aO => exact HO4.out
    case aB => exact HB5.out
    case aS => exact HB5.out.size
    case aL => have := HOL.out; omega
    intro v1 w7 ho hb hg hat; have HO6 := Lib.hid ho; have HB6 := Lib.hid hb; clear ho hb hg hat
    go_wp2_with fail
    go_roundg k1
    case measure => omega
    case rel => exact ⟨popL f' z, popL g' z, out ++ [⟨z, v - was⟩], p, q, v, C0, C1, e0, e1, m0, m1, rfl, rfl, rfl, rfl, rfl, HRL.out.1, HRL.out.2.1, HRL.out.2.2.1, HRL.out.2.2.2.1, HRL.out.2.2.2.2.1, HRL.out.2.2.2.2.2.1, HRL.out.2.2.2.2.2.2, ⟨⟨HSF2.out.1, HSG2.out.1, HIN.out.1, HIN.out.2, HOV.out.1, HOV.out.2, by have := HOL.out; rw [List.length_append]; simp only [List.length_cons, List.length_nil]; omega, HSF2.out.2, HSG2.out.2⟩⟩, ⟨HE3.out⟩, ⟨HF2.out⟩, ⟨HG3.out⟩, ⟨HO6.out⟩, ⟨HB6.out⟩⟩
end Go.Proofs.YtmkgecapkeojaaaGreat.Eg
end
section
namespace Go.Proofs.YtmkgecapkeojaaaGreat.Eg
open Go.Proofs.YtmkgecapkeojaaaGreat Go.Proofs.YtmkgecapkeojaaaGreat.PDa
open Go.RowKit Go.Proofs.YtmkgecapkeojaaaGreatW.PrintWords Go.Proofs.YtmkgecapkeojaaaGreatW.PrintLast Go.Proofs.YtmkgecapkeojaaaGreatW.PrintMore
open Go.Proofs.YtmkgecapkeojaaaGreat.Stp Go.Proofs.YtmkgecapkeojaaaGreat.Rw Go.Proofs.YtmkgecapkeojaaaGreat.Canon
open Go.Proofs.YtmkgecapkeojaaaGreat.EvP (U)
def valI : List Jp → Int → Int
 | [], _ => 0
 | x :: xs, p => (if x.f0 ≤ p then x.f1 else 0) + valI xs p
theorem valI_append (p : Int) : ∀ a b : List Jp, valI (a ++ b) p = valI a p + valI b p
 | [], b => by simp [valI]
 | x :: xs, b => by simp [valI, valI_append p xs b]; omega
end Go.Proofs.YtmkgecapkeojaaaGreat.Eg
end
section
namespace Go.Proofs.YtmkgecapkeojaaaGreat.Eg
open Go.Proofs.YtmkgecapkeojaaaGreat Go.Proofs.YtmkgecapkeojaaaGreat.PDa
open Go.RowKit Go.Proofs.YtmkgecapkeojaaaGreatW.PrintWords Go.Proofs.YtmkgecapkeojaaaGreat.Stp Go.Proofs.YtmkgecapkeojaaaGreat.Rw Go.Proofs.YtmkgecapkeojaaaGreat.Cmp
open Go.Proofs.YtmkgecapkeojaaaGreat.EvP (U)
def EOk (x : List Op8) (l : List EdP) : Prop := ∀ e ∈ l, EvP.XOk x e.f0
end Go.Proofs.YtmkgecapkeojaaaGreat.Eg
end
section
namespace Go.Proofs.YtmkgecapkeojaaaGreat.PDd
open Go.Proofs.YtmkgecapkeojaaaGreat Go.Proofs.YtmkgecapkeojaaaGreat.PDa Go.Proofs.YtmkgecapkeojaaaGreat.Eg
open Go.RowKit Go.Proofs.YtmkgecapkeojaaaGreatW.PrintWords Go.Proofs.YtmkgecapkeojaaaGreatW.PrintLast Go.Proofs.YtmkgecapkeojaaaGreatW.PrintMore
def r64 (z : Int) : Bool := decide (-9223372036854775808 ≤ z) && decide (z ≤ 9223372036854775807)
theorem r64_of {z : Int} (h : r64 z = true) : EvP.R64 z := by
 unfold r64 at h; rw [Bool.and_eq_true] at h; exact ⟨of_decide_eq_true h.1, of_decide_eq_true h.2⟩
def okEs (l : List S41) : Bool := l.all fun e => decide (e.f0.length ≤ 4398046511104) && e.f0.all fun v => r64 v.f1
def okXs (x : List S68) : Bool := x.all fun o => r64 o.f1
theorem okEs_row {l : List S41} (h : okEs l = true) : ∀ e ∈ l, e.f0.length ≤ 4398046511104 := fun e he => by
 have := List.all_eq_true.1 h e he; rw [Bool.and_eq_true] at this; exact of_decide_eq_true this.1
theorem okX {l : List S41} {x : List S68} (h : okEs l = true) (hx : okXs x = true) : EOk x l := fun e he => by
 refine ⟨fun o ho => r64_of (List.all_eq_true.1 hx o ho), fun v hv => ?_⟩; have := List.all_eq_true.1 h e he; rw [Bool.and_eq_true, List.all_eq_true] at this; exact r64_of (this.2 v hv)
end Go.Proofs.YtmkgecapkeojaaaGreat.PDd
end
section
namespace Go.Proofs.YtmkgecapkeojaaaGreat.Eg
open Go.Proofs.YtmkgecapkeojaaaGreat Go.Proofs.YtmkgecapkeojaaaGreat.PDa
open Go.Proofs.YtmkgecapkeojaaaGreat.EvP (evalV formV holdsV)
open Go.RowKit Go.Proofs.YtmkgecapkeojaaaGreatW.PrintWords Go.Proofs.YtmkgecapkeojaaaGreat.Stp Go.Proofs.YtmkgecapkeojaaaGreat.Rw Go.Proofs.YtmkgecapkeojaaaGreat.Cmp Go.Proofs.YtmkgecapkeojaaaGreat.Canon
def S (φ : KK → Int) : List (KK × Int) → Int
 | [] => 0
 | x :: xs => φ x.1 * x.2 + S φ xs
theorem S_ins (φ : KK → Int) (x : KK × Int) : ∀ l, S φ (ins ltK x l) = φ x.1 * x.2 + S φ l
 | [] => rfl
 | y :: ys => by
  unfold ins
  split
  ·rename_i h
   show φ y.1 * (x.2 + y.2) + _ = φ x.1 * x.2 + (φ y.1 * y.2 + _)
   rw [h, Int.mul_add]; omega
  ·split
   ·rfl
   ·rw [S, S_ins φ x ys, S]; omega
theorem S_canon (φ : KK → Int) (l : List (KK × Int)) : S φ (canon ltK l) = S φ l := by
 have h0 : ∀ l : List (KK × Int), S φ (l.filter fun x => decide (x.2 ≠ 0)) = S φ l := by
  intro l
  induction l with
  | nil => rfl
  | cons x xs ih =>
   rw [List.filter_cons]
   by_cases h : x.2 = 0
   ·rw [if_neg (by simp [h]), ih, S, h, Int.mul_zero]; omega
   ·rw [if_pos (by simp [h]), S, S, ih]
 unfold canon; rw [h0]
 induction l with
 | nil => rfl
 | cons x xs ih => rw [List.foldr_cons, S_ins, ih, S]
theorem S_congr (φ : KK → Int) {a b : List (KK × Int)} (h : ∀ k, J a k = J b k) : S φ a = S φ b := by rw [← S_canon φ a, ← S_canon φ b, canon_congr ltK_ord h]
theorem jumpsOf_filter (p : List Vl → Bool) (r : List Vl) : ∀ l : List EdP, (jumpsOf (l.filter fun e => p e.f0) r).length ≤ (jumpsOf l r).length := fun l => by
 unfold jumpsOf; rw [List.length_map, List.length_map]; exact (List.Sublist.filter _ List.filter_sublist).length_le
theorem MayP.filter {l : List EdP} (h : MayP l) (p : List Vl → Bool) : MayP (l.filter fun e => p e.f0) := by
 refine ⟨?_, fun e he => h.each e (List.mem_filter.1 he).1, fun r => Nat.le_trans (jumpsOf_filter p r l) (h.few r), Nat.le_trans (List.length_filter_le _ _) h.len⟩; have := h.can.filter (fun x => p x.1.1); rw [List.filter_map] at this; exact this
theorem valI_low {f : List Jp} {t : Int} (h : ∀ j ∈ f, t < j.f0) : valI f t = 0 := by
 induction f with
 | nil => rfl
 | cons x xs ih =>
  have h1 := h x List.mem_cons_self; rw [valI, if_neg (by omega), ih fun j hj => h j (List.mem_cons_of_mem _ hj)]; rfl
theorem S_append (φ : KK → Int) : ∀ a b, S φ (a ++ b) = S φ a + S φ b
 | [], b => by simp [S]
 | x :: xs, b => by rw [List.cons_append, S, S, S_append φ xs b]; omega
end Go.Proofs.YtmkgecapkeojaaaGreat.Eg
end
section
namespace Go.Proofs.YtmkgecapkeojaaaGreat.Eg
open Go.Proofs.YtmkgecapkeojaaaGreat Go.Proofs.YtmkgecapkeojaaaGreat.PDa
open Go.RowKit Go.Proofs.YtmkgecapkeojaaaGreatW.PrintWords Go.Proofs.YtmkgecapkeojaaaGreatW.PrintLast Go.Proofs.YtmkgecapkeojaaaGreatW.PrintMore
open Go.Proofs.YtmkgecapkeojaaaGreat.SortM Go.Proofs.YtmkgecapkeojaaaGreat.Run Go.Proofs.YtmkgecapkeojaaaGreat.Stp Go.Proofs.YtmkgecapkeojaaaGreat.Rw
theorem mul_bd (a b : Int) (h1 : -1073741824 ≤ a) (h2 : a ≤ 1073741824) (h3 : -1073741824 ≤ b) (h4 : b ≤ 1073741824) : -1152921504606846976 ≤ a * b ∧ a * b ≤ 1152921504606846976 := by
 have ha : a.natAbs ≤ 1073741824 := by omega
 have hb : b.natAbs ≤ 1073741824 := by omega
 have h := Nat.mul_le_mul ha hb; rw [← Int.natAbs_mul] at h; omega
theorem mul1_calls (a b : Int) (w : World) (h1 : -1073741824 ≤ a) (h2 : a ≤ 1073741824) (h3 : -1073741824 ≤ b) (h4 : b ≤ 1073741824) :
  Calls Tryz.prog 145 #[.int .i64 a, .int .i64 b] w fun e w' => e = .returned (.int .i64 (a * b)) ∧ w = w' := by
 obtain ⟨h5, h6⟩ := mul_bd a b h1 h2 h3 h4; have h7 : IntKind.i64.wrap (a * b) = a * b := by rw [IntKind.wrap_i64]; omega
 clear h1 h2 h3 h4; go_enter Tryz.func145, Tryz.ntmps145; go_wp2; go_ret; exact ⟨rfl, rfl⟩
abbrev BothIs (F : Nat) (op : Int → Int → Int) (A0 A1 : Option Addr) (c0 c1 : Nat) (f g : List Jp) (w : World) : Prop :=
 Calls Tryz.prog F #[.slice A0 f.length c0, .slice A1 g.length c1] w fun e w' => ∃ v, e = .returned (.tuple #[v, .int .i64 (bothV op f g).2]) ∧ Kd.R kJ tJ w' w.heap.size (fun _ => True) v (bothV op f g).1 ∧ Below w.heap.size w w'
theorem Mul_calls (A0 A1 : Option Addr) (c0 c1 : Nat) (f g : List Jp) (w : World) (hr0 : Kd.C kJ w A0 f.length f) (hc0 : f.length ≤ c0) (hr1 : Kd.C kJ w A1 g.length g) (hc1 : g.length ≤ c1) : BothIs 97 (· * ·) A0 A1 c0 c1 f g w := by
 have B := Lib.hid (both_calls (· * ·) 1152921504606846976 zq34 145 A0 A1 c0 c1 f g w hr0 hc0 hr1 hc1 (enters_of Tryz.func145 zq17 rfl) (fun a b w1 h1 h2 h3 h4 => mul1_calls a b w1 h1 h2 h3 h4) (fun a b h1 h2 h3 h4 => mul_bd a b h1 h2 h3 h4)); clear hr0 hr1 hc0 hc1; go_enter Tryz.func97, Tryz.ntmps97
 go_wp2_with fail
 refine B.out.mono ?_; rintro e w1 ⟨v, rfl, hR, hb⟩; go_wp2; go_ret2; exact ⟨v, rfl, hR, hb⟩
abbrev Rise (f : List Jp) : Prop := f.Pairwise fun x y => x.f0 < y.f0
theorem mAt_low {f g : List Jp} (hf : Rise f) (hg : Rise g) : (∀ j ∈ f, mAt f g ≤ j.f0) ∧ ∀ j ∈ g, mAt f g ≤ j.f0 := by
 have h1 : ∀ l : List Jp, Rise l → ∀ j ∈ l, hdA l ≤ j.f0 := by
  intro l hl j hj; cases l with
  | nil => cases hj
  | cons x xs =>
   rcases List.mem_cons.1 hj with rfl | hj
   ·exact Int.le_refl _
   ·have := (List.pairwise_cons.1 hl).1 j hj; show x.f0 ≤ j.f0; omega
 have h2 : mAt f g ≤ hdA f := by
  unfold mAt
  split
  ·exact Int.le_refl _
  ·split <;> omega
 refine ⟨fun j hj => by have := h1 f hf j hj; omega, fun j hj => ?_⟩; have h3 := h1 g hg j hj; cases g with
 | nil => cases hj
 | cons y ys =>
  have : mAt f (y :: ys) ≤ y.f0 := by unfold mAt; simp only; split <;> omega
  have h4 : y.f0 ≤ j.f0 := h3; omega
theorem popL_rise {f : List Jp} (h : Rise f) (t : Int) : Rise (popL f t) := by
 unfold popL
 split
 ·exact h
 ·split
  ·exact (List.pairwise_cons.1 h).2
  ·exact h
theorem pop_val {f : List Jp} {z t : Int} (h : Rise f) (hz : ∀ j ∈ f, z ≤ j.f0) (ht : z ≤ t) : popA f z + valI (popL f z) t = valI f t := by
 unfold popA popL; cases f with
 | nil => simp [valI]
 | cons x xs =>
  simp only
  split
  ·rename_i c; rw [valI, if_pos zq4]
  ·omega
theorem pop_after {f : List Jp} {z : Int} (h : Rise f) (hz : ∀ j ∈ f, z ≤ j.f0) : ∀ j ∈ popL f z, z < j.f0 := by
 unfold popL; cases f with
 | nil => intro j hj; cases hj
 | cons x xs =>
  have h1 := List.pairwise_cons.1 h; simp only
  split
  ·rename_i c; intro j hj; have := h1.1 j hj; omega
  ·rename_i c
   have h2 := hz x List.mem_cons_self; intro j hj
   rcases List.mem_cons.1 hj with rfl | hj
   ·omega
   ·have := h1.1 j hj; omega
theorem stJ_val (z v was t : Int) : valI (stJ z v was) t = if z ≤ t then v - was else 0 := by
 unfold stJ
 split
 ·simp [valI]
 ·rename_i c
  have : v = was := by simpa using c
  simp [valI, this]
theorem both_val (op : Int → Int → Int) (t : Int) : ∀ (k : Nat) (f g : List Jp) (a b was : Int), Rise f → Rise g → In50 g → f.length + g.length ≤ k → was = op a b → valI (bothL op k f g a b was) t = op (a + valI f t) (b + valI g t) - was
 | 0, f, g, a, b, was, _, _, _, hk, hw => by
  obtain rfl : f = [] := List.eq_nil_of_length_eq_zero zq4; obtain rfl : g = [] := List.eq_nil_of_length_eq_zero zq4; simp [bothL, valI, hw]
 | k + 1, f, g, a, b, was, hf, hg, hi, hk, hw => by
  rw [bothL]
  by_cases h0 : f.length + g.length = 0
  ·rw [if_pos h0]
   obtain rfl : f = [] := List.eq_nil_of_length_eq_zero zq4; obtain rfl : g = [] := List.eq_nil_of_length_eq_zero zq4; simp [valI, hw]
  ·rw [if_neg h0]
   have hlt := pop_lt hi (f := f) zq4; obtain ⟨l1, l2⟩ := mAt_low hf hg; generalize mAt f g = z at *; rw [valI_append, stJ_val, both_val op t k _ _ _ _ _ (popL_rise hf z) (popL_rise hg z) (fun j hj => hi j (popL_sub hj)) zq4 rfl]
   by_cases c : z ≤ t
   ·rw [if_pos c, Int.add_assoc, pop_val hf l1 c, Int.add_assoc, pop_val hg l2 c]; omega
   ·have e1 := pop_after hf l1
    have e2 := pop_after hg l2; rw [if_neg c, valI_low (f := popL f z) (fun j hj => by have := e1 j hj; omega), valI_low (f := popL g z) (fun j hj => by have := e2 j hj; omega), valI_low (f := f) (fun j hj => by have := l1 j hj; omega), valI_low (f := g) (fun j hj => by have := l2 j hj; omega), hw]; simp
theorem bothV_val {op : Int → Int → Int} (h0 : op 0 0 = 0) {f g h : List Jp} (hh : bothV op f g = (h, 0)) : mayJ f = true ∧ mayJ g = true ∧ mayJ h = true ∧ ∀ t, valI h t = op (valI f t) (valI g t) := by
 unfold bothV at hh
 by_cases c : (mayJ f && mayJ g) = true
 ·rw [if_pos c] at hh
  rw [Bool.and_eq_true] at c; unfold toldJ at hh
  by_cases c2 : mayJ (bothL op (f.length + g.length) f g 0 0 0) = true
  ·rw [if_pos c2] at hh
   obtain rfl : bothL op (f.length + g.length) f g 0 0 0 = h := congrArg Prod.fst hh; refine ⟨c.1, c.2, c2, fun t => ?_⟩; have pg := mayJ_parts c.2; rw [both_val op t _ f g 0 0 0 (mayJ_parts c.1).2.2 pg.2.2 (fun j hj => ⟨(pg.2.1 j hj).2.1, okFair (pg.2.1 j hj).2.2.2⟩) (Nat.le_refl _) h0.symm]; simp
  ·rw [if_neg c2] at hh; cases hh
 ·rw [if_neg c] at hh; cases hh
def joinV (a b : List Vl) : List Vl × Int := if (rowMay a && rowMay b) = true then (if 8 < a.length + b.length then ([], 6) else (a ++ b, 0)) else ([], 2)
theorem Join_calls (A0 A1 : Option Addr) (c0 c1 : Nat) (a b : List Vl) (w : World) (hr0 : Kd.C kV w A0 a.length a) (hc0 : a.length ≤ c0) (hr1 : Kd.C kV w A1 b.length b) (hc1 : b.length ≤ c1) :
  Calls Tryz.prog 98 #[.slice A0 a.length c0, .slice A1 b.length c1] w fun e w' => ∃ v, e = .returned (.tuple #[v, .int .i64 (joinV a b).2]) ∧ Kd.R kV tV w' w.heap.size (fun _ => True) v (joinV a b).1 ∧ Below w.heap.size w w' := by
 have hu39 : Tryz.prog.underlying 39 = some (.slice 65) := by kernel_rfl
 have MA := Lib.hid (row_May.calls A0 c0 a (rowMay a) w hr0 hc0 rfl); have MB := Lib.hid (fun (w1 : World) (h : Below w.heap.size w w1) => row_May.calls A1 c1 b (rowMay b) w1 (Kd.C_below hr1 h) hc1 rfl); have HR0 := Lib.hid hr0; have HR1 := Lib.hid hr1; clear hr0 hr1 hc0 hc1; cases hma : rowMay a with
 | false =>
  rw [hma] at MA; have HV := Lib.hid (show joinV a b = ([], 2) by unfold joinV; rw [hma]; rfl); clear hma; go_enter Tryz.func98, Tryz.ntmps98
  go_wp2_with fail
  refine MA.out.mono ?_; rintro e w1 ⟨rfl, hb⟩; go_wp2; go_ret2; exact ⟨.slice none 0 0, by rw [HV.out]; rfl, by rw [HV.out]; exact Kd.R_nil _ _ _ _ _, hb⟩
 | true =>
 rw [hma] at MA; cases hmb : rowMay b with
 | false =>
  rw [hmb] at MB; have HV := Lib.hid (show joinV a b = ([], 2) by unfold joinV; rw [hmb, Bool.and_false]; rfl); clear hma hmb; go_enter Tryz.func98, Tryz.ntmps98
  go_wp2_with fail
  refine MA.out.mono ?_; rintro e w1 ⟨rfl, hb⟩; have HB := Lib.hid hb; clear hb
  go_wp2_with fail
  refine (MB.out w1 HB.out).mono ?_; rintro e w2 ⟨rfl, hb⟩; have HB2 := Lib.hid (HB.out.trans (hb.mono HB.out.size)); clear hb; go_wp2; go_ret2; exact ⟨.slice none 0 0, by rw [HV.out]; rfl, by rw [HV.out]; exact Kd.R_nil _ _ _ _ _, HB2.out⟩
 | true =>
 rw [hmb] at MB; have la := rowMay_len hma; have lb := rowMay_len hmb
 by_cases h8 : 8 < a.length + b.length
 ·have HV := Lib.hid (show joinV a b = ([], 6) by unfold joinV; rw [hma, hmb, if_pos h8]; rfl)
  have q : decide ((a.length : Int) + (b.length : Int) > 8) = true := decide_eq_true zq4; have l1 : (a.length : Int) ≤ 8 := by omega
  have l2 : (b.length : Int) ≤ 8 := by omega
  clear hma hmb h8; go_enter Tryz.func98, Tryz.ntmps98
  go_wp2_with fail
  refine MA.out.mono ?_; rintro e w1 ⟨rfl, hb⟩; have HB := Lib.hid hb; clear hb
  go_wp2_with fail
  refine (MB.out w1 HB.out).mono ?_; rintro e w2 ⟨rfl, hb⟩; have HB2 := Lib.hid (HB.out.trans (hb.mono HB.out.size)); clear hb; go_wp2; go_ret2; exact ⟨.slice none 0 0, by rw [HV.out]; rfl, by rw [HV.out]; exact Kd.R_nil _ _ _ _ _, HB2.out⟩
 ·have HV := Lib.hid (show joinV a b = (a ++ b, 0) by unfold joinV; rw [hma, hmb, if_neg h8]; rfl)
  have q : decide ((a.length : Int) + (b.length : Int) > 8) = false := decide_eq_false zq4; have l1 : (a.length : Int) ≤ 8 := by omega
  have l2 : (b.length : Int) ≤ 8 := by omega
  have HLL := Lib.hid (show a.length ≤ 8 ∧ b.length ≤ 8 from ⟨la, lb⟩); clear hma hmb h8 la lb; go_enter Tryz.func98, Tryz.ntmps98
  go_wp2_with fail
  refine MA.out.mono ?_; rintro e w1 ⟨rfl, hb⟩; have HB := Lib.hid hb; clear hb
  go_wp2_with fail
  refine (MB.out w1 HB.out).mono ?_; rintro e w2 ⟨rfl, hb⟩; have HB2 := Lib.hid (HB.out.trans (hb.mono HB.out.size)); have CC := Lib.hid (copy_calls A0 c0 a w2 (Kd.C_below HR0.out HB2.out) (by have := HLL.out; omega)); clear hb
  go_wp2_with fail
  refine CC.out.mono ?_; rintro e w3 ⟨vc, rfl, hRc, hb3⟩; have HB3 := Lib.hid (HB2.out.trans (hb3.mono HB2.out.size)); have HRC := Lib.hid (Kd.R_lower hRc HB2.out.size); have HRB := Lib.hid (Kd.C_below HR1.out HB3.out); clear hRc hb3 CC
  go_wp2_with (at_builtin; (refine Kd.R_append_rows kV (w0 := w) w.heap.size rfl _ _ 39 65 (.agg #[(.int .i64 0), (.int .i64 0), (.string ⟨#[]⟩)]) 32 rfl hu39 info65 rfl zq34 zq4 vc a b _ _ _ (fun _ => True) (fun _ => False) rfl rfl HRC.out HRB.out (fun _ _ h => h) (fun _ h => h.elim) (fun _ _ => trivial) HB3.out HB3.out.size ?aL ?_))
  case aL => have := HLL.out; omega
  intro v4 w4 ho hb hg hat; have HO4 := Lib.hid ho; have HB4 := Lib.hid hb; clear ho hb hg hat; go_wp2; go_ret2; exact ⟨v4, by rw [HV.out]; rfl, by rw [HV.out]; exact HO4.out, HB4.out⟩
def edgesJ (hh : List Vl → Bool × Int) (x y : List Vl × List Jp) : List EdP × Int :=
 if (bothV (· * ·) x.2 y.2).2 ≠ 0 then ([], (bothV (· * ·) x.2 y.2).2) else if (bothV (· * ·) x.2 y.2).1 = [] then ([], 0) else
 if (joinV x.1 y.1).2 ≠ 0 then ([], (joinV x.1 y.1).2) else if (hh (joinV x.1 y.1).1).2 ≠ 0 then ([], (hh (joinV x.1 y.1).1).2) else if (hh (joinV x.1 y.1).1).1 = true then (buildP (joinV x.1 y.1).1 (bothV (· * ·) x.2 y.2).1, 0) else ([], 0)
theorem edges_calls (hh : List Vl → Bool × Int) (x y : List Vl × List Jp) (Aa Ab Af Ag A1 : Option Addr) (ca cb cf cg c1 : Nat) (ex : List Op8) (w : World)
  (ha : Kd.R kV tV w 0 (fun _ => True) (.slice Aa x.1.length ca) x.1) (hb : Kd.R kV tV w 0 (fun _ => True) (.slice Ab y.1.length cb) y.1) (hf : Kd.R kJ tJ w 0 (fun _ => True) (.slice Af x.2.length cf) x.2) (hg : Kd.R kJ tJ w 0 (fun _ => True) (.slice Ag y.2.length cg) y.2)
  (hr1 : Kd.C kO w A1 ex.length ex) (hc1 : ex.length ≤ c1) (hhk : (joinV x.1 y.1).2 = 0 → ∃ k, eval_Holds.f k ex (joinV x.1 y.1).1 = some (hh (joinV x.1 y.1).1)) :
  Calls Tryz.prog 64 #[.agg #[.slice Aa x.1.length ca, .slice Ab y.1.length cb, .slice Af x.2.length cf, .slice Ag y.2.length cg], .slice A1 ex.length c1] w fun e w' => ∃ v, e = .returned (.tuple #[v, .int .i64 (edgesJ hh x y).2]) ∧ Kd.R kE tE w' w.heap.size (fun _ => True) v (edgesJ hh x y).1 ∧ Below w.heap.size w w' := by
 have MU := Lib.hid (fun (w1 : World) (h : Below w.heap.size w w1) => Mul_calls Af Ag cf cg x.2 y.2 w1 (Kd.R_reads' (Kd.R_below hf h)).2.2 (Kd.R_reads' hf).2.1 (Kd.R_reads' (Kd.R_below hg h)).2.2 (Kd.R_reads' hg).2.1); have JO := Lib.hid (fun (w1 : World) (h : Below w.heap.size w w1) => Join_calls Aa Ab ca cb x.1 y.1 w1 (Kd.R_reads' (Kd.R_below ha h)).2.2 (Kd.R_reads' ha).2.1 (Kd.R_reads' (Kd.R_below hb h)).2.2 (Kd.R_reads' hb).2.1); have HX := Lib.hid hr1; have HCX := Lib.hid hc1; have HHK := Lib.hid hhk; obtain ⟨o, ho⟩ : ∃ o, edgesJ hh x y = o := ⟨_, rfl⟩
 rw [ho]; unfold edgesJ at ho; obtain ⟨⟨h, eh⟩, hmu⟩ : ∃ z, bothV (· * ·) x.2 y.2 = z := ⟨_, rfl⟩
 obtain ⟨⟨bo, ej⟩, hjo⟩ : ∃ z, joinV x.1 y.1 = z := ⟨_, rfl⟩
 rw [hjo] at HHK; rw [hmu, hjo] at ho; have MU2 := Lib.hid (fun w1 hh => by have := MU.out w1 hh; unfold BothIs at this; rw [hmu] at this; exact this); have JO2 := Lib.hid (fun w1 hh => by have := JO.out w1 hh; rw [hjo] at this; exact this); obtain ⟨na, hna⟩ : ∃ n, x.1.length = n := ⟨_, rfl⟩
 obtain ⟨nb, hnb⟩ : ∃ n, y.1.length = n := ⟨_, rfl⟩
 obtain ⟨nf, hnf⟩ : ∃ n, x.2.length = n := ⟨_, rfl⟩
 obtain ⟨ng, hng⟩ : ∃ n, y.2.length = n := ⟨_, rfl⟩
 rw [hnf, hng] at MU2; rw [hna, hnb] at JO2; rw [hna, hnb, hnf, hng]; have HO := Lib.hid ho; clear ha hb hf hg hr1 hc1 hhk ho hmu hjo hna hnb hnf hng MU JO; go_enter Tryz.func64, Tryz.ntmps64; obtain ⟨w1, hw1⟩ : ∃ w1, w.alloc (.cells #[.slice Aa na ca, .slice Ab nb cb, .slice Af nf cf, .slice Ag ng cg] 90 (0, 0)) = w1 := ⟨_, rfl⟩
 have HB1 := Lib.hid (show Below w.heap.size w w1 by rw [← hw1]; exact below_alloc (Below.refl _ _) _); have bx := blk_new w (.cells #[.slice Aa na ca, .slice Ab nb cb, .slice Af nf cf, .slice Ag ng cg] 90 (0, 0)); rw [hw1] at bx; have y0 : w1.cell? ⟨w.heap.size, 0, none⟩ = some (.slice Aa na ca) := (blk_cell bx 0).trans rfl; have y1 : w1.cell? ⟨w.heap.size, 1, none⟩ = some (.slice Ab nb cb) := (blk_cell bx 1).trans rfl; have y2 : w1.cell? ⟨w.heap.size, 2, none⟩ = some (.slice Af nf cf) := (blk_cell bx 2).trans rfl; have y3 : w1.cell? ⟨w.heap.size, 3, none⟩ = some (.slice Ag ng cg) := (blk_cell bx 3).trans rfl; have HW1 := Lib.hid hw1; clear bx hw1
 go_wp2_with fail
 rw [HW1.out]; refine (MU2.out w1 HB1.out).mono ?_; rintro e w2 ⟨vh, rfl, hRh, hb2⟩; obtain ⟨Ah, ch, rfl⟩ := Kd.R_slice hRh; have HB2 := Lib.hid (HB1.out.trans (hb2.mono HB1.out.size)); have z0 := pw_cell_below hb2 y0; have z1 := pw_cell_below hb2 y1; have HRH := Lib.hid hRh; clear y0 y1 y2 y3 hb2 hRh MU2 HW1; simp only at HRH ⊢
 by_cases e1 : eh = 0
 case neg =>
  have q1 : (eh != 0) = true := by simpa using e1
  have HO2 := Lib.hid (show o = ([], eh) by rw [← HO.out]; rw [if_pos e1]); clear e1; go_wp2; go_ret2; exact ⟨.slice none 0 0, by rw [HO2.out]; rfl, by rw [HO2.out]; exact Kd.R_nil _ _ _ _ _, HB2.out⟩
 case pos =>
 subst e1; obtain ⟨nh, hnh⟩ : ∃ n, h.length = n := ⟨_, rfl⟩
 rw [hnh] at HRH ⊢
 by_cases e2 : nh = 0
 ·have q2 : ((nh : Int) == 0) = true := by simpa using e2
  have hn : h = [] := List.eq_nil_of_length_eq_zero zq4; have HO2 := Lib.hid (show o = ([], 0) by rw [← HO.out]; rw [if_neg zq30, if_pos hn]); clear e2 hn hnh; go_wp2; go_ret2; exact ⟨.slice none 0 0, by rw [HO2.out]; rfl, by rw [HO2.out]; exact Kd.R_nil _ _ _ _ _, HB2.out⟩
 have q2 : ((nh : Int) == 0) = false := by simpa using e2
 have hn : ¬ h = [] := fun e => e2 (by rw [← hnh, e]; rfl)
 have HO1 := Lib.hid (show (if ej ≠ 0 then ([], ej) else if (hh bo).2 ≠ 0 then ([], (hh bo).2) else if (hh bo).1 = true then (buildP bo h, 0) else ([], 0)) = o by have h9 := HO.out; rw [if_neg zq30, if_neg hn] at h9; exact h9); have HNH := Lib.hid hnh; clear e2 hn HO hnh
 go_wp2_with fail
 refine (JO2.out w2 HB2.out).mono ?_; rintro e w3 ⟨vb, rfl, hRb, hb3⟩; obtain ⟨Ab2, cb2, rfl⟩ := Kd.R_slice hRb; have HB3 := Lib.hid (HB2.out.trans (hb3.mono HB2.out.size)); have HRB := Lib.hid hRb; have HRH3 := Lib.hid (Kd.R_below HRH.out hb3); clear hRb hb3 z0 z1 HRH JO2; simp only at HRB ⊢
 by_cases e3 : ej = 0
 case neg =>
  have q3 : (ej != 0) = true := by simpa using e3
  have HO2 := Lib.hid (show o = ([], ej) by rw [← HO1.out, if_pos e3]); clear e3; go_wp2; go_ret2; exact ⟨.slice none 0 0, by rw [HO2.out]; rfl, by rw [HO2.out]; exact Kd.R_nil _ _ _ _ _, HB3.out⟩
 case pos =>
 subst e3; have HEV := Lib.hid ((HHK.out rfl).elim fun k hk => eval_Holds.calls k A1 c1 ex Ab2 cb2 bo _ _ w3 (Kd.C_below HX.out HB3.out) HCX.out (Kd.R_reads' HRB.out).2.2 (Kd.R_reads' HRB.out).2.1 hk); have HBU := Lib.hid (fun (w4 : World) (h4 : Below w3.heap.size w3 w4) => Build_calls Ab2 cb2 bo Ah ch h w4 (Kd.R_below (Kd.R_lower HRB.out (Nat.zero_le _)) h4) (by rw [HNH.out]; exact Kd.R_below (Kd.R_lower HRH3.out (Nat.zero_le _)) h4)); obtain ⟨⟨hb, he⟩, hhb⟩ : ∃ z, hh bo = z := ⟨_, rfl⟩
 rw [hhb] at HEV HO1; rw [HNH.out] at HBU; obtain ⟨nb2, hnb2⟩ : ∃ n, bo.length = n := ⟨_, rfl⟩
 rw [hnb2] at HEV HBU ⊢; clear hhb hnb2 HHK HRB HRH3; simp only at HEV HO1
 go_wp2_with fail
 refine HEV.out.mono ?_; rintro e w4 ⟨rfl, hb4⟩; have HD4 := Lib.hid hb4; have HB4 := Lib.hid (HB3.out.trans (hb4.mono HB3.out.size)); clear hb4 HEV
 by_cases e4 : he = 0
 case neg =>
  have q4 : (he != 0) = true := by simpa using e4
  have HO2 := Lib.hid (show o = ([], he) by rw [← HO1.out, if_neg zq30, if_pos e4]); clear e4; go_wp2; go_ret2; exact ⟨.slice none 0 0, by rw [HO2.out]; rfl, by rw [HO2.out]; exact Kd.R_nil _ _ _ _ _, HB4.out⟩
 case pos =>
 subst e4; cases hb with
 | false =>
  have HO2 := Lib.hid (show o = ([], 0) by rw [← HO1.out, if_neg zq30, if_neg zq30, if_neg zq30]); go_wp2; go_ret2; exact ⟨.slice none 0 0, by rw [HO2.out]; rfl, by rw [HO2.out]; exact Kd.R_nil _ _ _ _ _, HB4.out⟩
 | true =>
  have HO2 := Lib.hid (show o = (buildP bo h, 0) by rw [← HO1.out, if_neg zq30, if_neg zq30, if_pos rfl])
  go_wp2_with fail
  refine (HBU.out w4 HD4.out).mono ?_; rintro e w5 ⟨v5, rfl, hR5, hb5⟩; have HB5 := Lib.hid (HB4.out.trans (hb5.mono HB4.out.size)); have HR5 := Lib.hid (Kd.R_lower hR5 HB4.out.size); clear hR5 hb5; go_wp2; go_ret2; exact ⟨v5, by rw [HO2.out]; rfl, by rw [HO2.out]; exact HR5.out, HB5.out⟩
end Go.Proofs.YtmkgecapkeojaaaGreat.Eg
end
section
namespace Go.Proofs.YtmkgecapkeojaaaGreat.Run
open Go Go.RowKit
section
variable {F : Fence} {n : Nat} {P : Program} {β : Type}
theorem IterOnB.inRound {gf : Nat} {lb : Array Value} {items : List β} {Φ : β → Array Value → Nat → World → Prop} {R : Nat → Prop} {w0 : World} (l : Nat) (h : IterOnB F n P gf lb items Φ R w0) : IterOnB (F.inRound l) n P gf lb items Φ R w0 := h
theorem range_inner {g : Operand} {ps : Array Tmp} {assign body : Code} {Q : Exit → Act → World → Prop} {a : Act} {w : World} {l0 : Nat} {r0 : Loop}
  (hro : F.round = some l0) (hl0 : w.heap[l0]? = some (.loop r0)) (h1 : 1 ≤ n) {gf : Nat} {lb : Array Value} (hg : a.eval g = .func (.func gf) #[] lb) (hFg : F.fn gf) (eg : ∀ args w, (callFunc gf args).run P w = .ok (.enter gf args) w)
  {items : List β} {Φ : β → Array Value → Nat → World → Prop} {R : Nat → Prop} {w0 : World} (hseq : IterOnB F (n - 1) P gf lb items Φ R w0) (hw0 : Keeps R w0 w) (hps : ∀ x args z W, Φ x args z W → args.size = ps.size)
  (I : Nat → (Nat → Prop) → World → Prop) (Ix : Code → (Nat → Prop) → World → Prop) (Ax : β → Array Value → Nat → Act → World → Prop)
  (hI : ∀ k S, Grow w.heap.size (I k S)) (hIx : ∀ c S, Grow w.heap.size (Ix c S)) (hΦ : ∀ x args z, Grow w.heap.size (Φ x args z)) (hAx : ∀ x args n a', Grow w.heap.size (Ax x args n a'))
  (S0 : Nat → Prop) (hS0 : ∀ b, S0 b → ¬ R b ∧ b < w.heap.size) (h0 : I 0 S0 w)
  (hassign : ∀ (l k : Nat) (S : Nat → Prop) (x : β) (args : Array Value) (z : Nat) (W : World) (K : Act → World → Prop), items[k]? = some x → I k S W → Φ x args z W → (∀ a' W', Below W.heap.size W W' → Ax x args W.heap.size a' W' → K a' W') →
   assign.wpIn (F.inRound l) (n - 1 - 1) P (Exit.then K (fun _ _ _ => False)) { tmps := (ps.zip args).foldl (fun t (p, v) => t.setIfInBounds p v) a.tmps, defers := [] } W)
  (hbody : ∀ (l k : Nat) (S : Nat → Prop) (x : β) (args : Array Value) (z n0 : Nat) (a' : Act) (W : World), w.heap.size ≤ l → (∃ r, W.heap[l]? = some (.loop r)) → items[k]? = some x → (∀ b, S b → b < z) → z ≤ n0 → n0 ≤ W.heap.size → ¬ S l → Keeps R w0 W → I k S W → Φ x args z W → Ax x args n0 a' W →
   body.wpIn (F.inRound l) (n - 1 - 1) P (roundEnd I Ix S k W) a' W)
  (hdone : ∀ (S : Nat → Prop) (W : World), Step S0 S w W → (∀ b, S b → b < W.heap.size) → I items.length S W → Q .normal a W)
  (hstop : ∀ (c : Code) (S : Nat → Prop) (W : World), Step S0 S w W → (∀ b, S b → b < W.heap.size) → Ix c S W → c.wpIn F n P Q a W) :
  (Code.rangeFunc g ps assign body).wpIn F n P Q a w := by
 refine wpIn_rangeFunc fun fn hfn => ?_
 rw [hro]; obtain ⟨rec, hrec⟩ : ∃ rec : LoopState → Option Code → Loop, rec = fun st pe => { state := st, pending := pe, fn, tmps := a.tmps, params := ps, assign, body, defers := r0.defers } := ⟨_, rfl⟩
 obtain ⟨W1, hW1⟩ : ∃ W1, w.alloc (.loop (rec .ready none)) = W1 := ⟨_, rfl⟩
 have hsz : W1.heap.size = w.heap.size + 1 := by rw [← hW1]; simp
 have hL1 : W1.heap[w.heap.size]? = some (.loop (rec .ready none)) := by
  rw [← hW1]; exact World.alloc_heap_new w _
 have hI1 : I 0 S0 W1 := by rw [← hW1]; exact (hI 0 S0).alloc _ h0
 have hb1 : Below w.heap.size w W1 := by rw [← hW1]; exact (Below.refl _ w).alloc (Nat.le_refl _) _
 have hT1 : Keeps R w0 W1 := hw0.trans (Keeps.of_below hb1 fun b hb => Nat.lt_of_lt_of_le (hseq.1 b hb) hw0.size); have hRw : ∀ b, R b → b < w.heap.size := fun b hb => Nat.lt_of_lt_of_le (hseq.1 b hb) hw0.size
 refine ⟨w.heap.size, [], W1, { target := .fn (.func gf) lb, args := #[.func (.yield w.heap.size) #[] #[]] }, W1, gf,
  #[.func (.yield w.heap.size) #[] #[]] ++ lb, W1, ?_, ?_, ?_, ?_, fun _ => h1, ?_⟩
 ·rw [← hW1, hrec]; exact run_enterLoop_inner hl0 _ _ _ _ _
 ·simp only [resolve, hg]
  simp [go_sem]
 ·intro f' hf'; simp [Target.leads] at hf'; subst hf'; exact hFg
 ·simp [invoke, go_sem, eg]
 have hcall := hseq.2 w.heap.size
  (fun k S W => ∃ S', S = (fun b => S' b ∨ b = w.heap.size) ∧ (¬ S' w.heap.size ∧ Step S0 S' w W ∧ ∀ b, S' b → b < W.heap.size) ∧ I k S' W ∧ W.heap[w.heap.size]? = some (.loop (rec .ready none)))
  (fun S W => ∃ S' c, S = (fun b => S' b ∨ b = w.heap.size) ∧ (¬ S' w.heap.size ∧ Step S0 S' w W ∧ ∀ b, S' b → b < W.heap.size) ∧ Ix c S' W ∧ W.heap[w.heap.size]? = some (.loop (rec .done (some c))))
  (fun b => S0 b ∨ b = w.heap.size) W1 hT1
  (fun b hb => by
   rcases hb with hb | rfl
   ·exact ⟨(hS0 b hb).1, by have := (hS0 b hb).2; omega⟩
   ·exact ⟨fun h => by have := hRw _ h; omega, by omega⟩)
  (fun k S => Grow.ex fun S' => by
   refine ⟨?_, ?_⟩
   ·rintro W W' ⟨e, ⟨n1, n2, n3⟩, hi, hl⟩ hb
    exact ⟨e, ⟨n1, n2.trans (Step.of_below hb), fun b hb' => Nat.lt_of_lt_of_le (n3 b hb') hb.size⟩, (hI k S').below hi hb, loop_below hb hl⟩
   ·rintro W l' o o' ⟨e, ⟨n1, n2, n3⟩, hi, hl⟩ hle ho hc
    refine ⟨e, ⟨n1, ?_, fun b hb' => by rw [World.putObj_size]; exact n3 b hb'⟩, (hI k S').put o' hi (by omega) ho hc, (World.putObj_heap_other (by omega)).trans hl⟩; exact ⟨n2.os, n2.tape, n2.output, by rw [World.putObj_size]; exact n2.size, fun b hb hS => (World.putObj_heap_other (by omega)).trans (n2.keep b hb hS), n2.sub⟩)
  (fun S => Grow.ex fun S' => Grow.ex fun c => by
   refine ⟨?_, ?_⟩
   ·rintro W W' ⟨e, ⟨n1, n2, n3⟩, hi, hl⟩ hb
    exact ⟨e, ⟨n1, n2.trans (Step.of_below hb), fun b hb' => Nat.lt_of_lt_of_le (n3 b hb') hb.size⟩, (hIx c S').below hi hb, loop_below hb hl⟩
   ·rintro W l' o o' ⟨e, ⟨n1, n2, n3⟩, hi, hl⟩ hle ho hc
    refine ⟨e, ⟨n1, ?_, fun b hb' => by rw [World.putObj_size]; exact n3 b hb'⟩, (hIx c S').put o' hi (by omega) ho hc, (World.putObj_heap_other (by omega)).trans hl⟩; exact ⟨n2.os, n2.tape, n2.output, by rw [World.putObj_size]; exact n2.size, fun b hb hS => (World.putObj_heap_other (by omega)).trans (n2.keep b hb hS), n2.sub⟩)
  (by
   rintro k x args z S1 W hx ⟨S', rfl, ⟨n1, n2, n3⟩, hi, hl⟩ hz hzW hst hphi; have hkr : Keeps R w0 W := hT1.trans (hst.keeps fun b hb => ⟨by have := hRw b hb; omega, by
    rintro (h | h)
    ·exact (hS0 b h).1 hb
    ·have := hRw b hb; omega⟩)
   refine (yield_round (B := w.heap.size) (rec := rec) ⟨r0.defers, hrec⟩ hfn (Nat.le_refl _) hI hIx (fun args => hΦ x args z) (hAx x) k S' args (hps x args z W hphi) W hl n1 n3 hi hphi
    (fun K hK => hassign _ k S' x args z W K hx hi hphi hK)
    (fun a' W2 hr h12 hi2 hphi2 hax => hbody _ k S' x args z _ a' W2 (Nat.le_refl _) hr hx (fun b hb => hz b (.inl hb)) hzW h12.size n1
     (hkr.trans (h12.keeps fun b hb => ⟨by have := hRw b hb; have := n2.size; omega, fun e => by have := hRw b hb; omega⟩)) hi2 hphi2 hax)).mono ?_
   rintro e W' (⟨rfl, S'', hs, hsb', hn, hi', hl'⟩ | ⟨rfl, c, S'', hs, hsb', hn, hi', hl'⟩)
   ·have hl1' : w.heap.size < W'.heap.size := (Array.getElem?_eq_some_iff.1 hl').1
    refine .inl ⟨rfl, _, hs, ?_, S'', rfl, ⟨hn, ?_, hsb'⟩, hi', hl'⟩
    ·rintro b (h | rfl)
     ·exact hsb' b h
     ·exact hl1'
    ·have hst2 : Step S0 (fun b => S'' b ∨ b = w.heap.size) w W' := Step.drop (T := fun b => b = w.heap.size) ((n2.wide _).trans hs) (fun b e => by omega)
     exact hst2.narrow fun b hb => .inl hb
   ·have hl1' : w.heap.size < W'.heap.size := (Array.getElem?_eq_some_iff.1 hl').1
    refine .inr ⟨rfl, _, hs, ?_, S'', c, rfl, ⟨hn, ?_, hsb'⟩, hi', hl'⟩
    ·rintro b (h | rfl)
     ·exact hsb' b h
     ·exact hl1'
    ·have hst2 : Step S0 (fun b => S'' b ∨ b = w.heap.size) w W' := Step.drop (T := fun b => b = w.heap.size) ((n2.wide _).trans hs) (fun b e => by omega)
     exact hst2.narrow fun b hb => .inl hb)
  ⟨S0, rfl, ⟨fun h => by have := (hS0 _ h).2; omega, Step.of_below hb1, fun b hb => by have := (hS0 b hb).2; omega⟩, hI1, hL1⟩
 have stp : ∀ {S' : Nat → Prop} {W2 : World} (o' : Obj), Step S0 S' w W2 → Step S0 S' w (W2.putObj w.heap.size o') := fun o' n2 =>
  ⟨n2.os, n2.tape, n2.output, by rw [World.putObj_size]; exact n2.size, fun b hb hS => (World.putObj_heap_other (by omega)).trans (n2.keep b hb hS), n2.sub⟩
 refine hcall.mono ?_; rintro e W2 ⟨⟨v, rfl⟩, S2, hs2, hsb2, (⟨S', rfl, ⟨n1, n2, n3⟩, hi, hl⟩ | ⟨S', c, rfl, ⟨n1, n2, n3⟩, hi, hl⟩)⟩
 ·refine ⟨none, _, by have := run_endLoop (P := P) hl (by rw [hrec]; simp); rw [hrec] at this; exact this, ?_⟩
  exact hdone S' _ (stp _ n2) (fun b hb => by rw [World.putObj_size]; exact n3 b hb) ((hI _ _).put _ hi (Nat.le_refl _) hl rfl)
 ·refine ⟨some c, _, by have := run_endLoop (P := P) hl (by rw [hrec]; simp); rw [hrec] at this; exact this, ?_⟩
  exact hstop c S' _ (stp _ n2) (fun b hb => by rw [World.putObj_size]; exact n3 b hb) ((hIx _ _).put _ hi (Nat.le_refl _) hl rfl)
end
end Go.Proofs.YtmkgecapkeojaaaGreat.Run
end
section
namespace Go.Proofs.YtmkgecapkeojaaaGreat.Eg
open Go.Proofs.YtmkgecapkeojaaaGreat Go.Proofs.YtmkgecapkeojaaaGreat.PDa
open Go.RowKit Go.Proofs.YtmkgecapkeojaaaGreatW.PrintWords Go.Proofs.YtmkgecapkeojaaaGreatW.PrintLast Go.Proofs.YtmkgecapkeojaaaGreatW.PrintMore
open Go.Proofs.YtmkgecapkeojaaaGreat.SortM Go.Proofs.YtmkgecapkeojaaaGreat.Run Go.Proofs.YtmkgecapkeojaaaGreat.Stp Go.Proofs.YtmkgecapkeojaaaGreat.Rw
attribute [local go_sem] Oper.semAt_some
abbrev Gr := List Vl × List Jp
def pairsL (a b : List Gr) : List (Gr × Gr) := a.flatMap fun x => b.map fun y => (x, y)
theorem pairsL_len (a b : List Gr) : (pairsL a b).length = a.length * b.length := by
 induction a with
 | nil => simp [pairsL]
 | cons x xs ih =>
  have e : pairsL (x :: xs) b = (b.map fun y => (x, y)) ++ pairsL xs b := by simp [pairsL]
  rw [e, List.length_append, List.length_map, ih, List.length_cons, Nat.succ_mul]; omega
theorem pairsL_get (b : List Gr) : ∀ (a : List Gr) (i j : Nat) (x y : Gr), a[i]? = some x → b[j]? = some y → (pairsL a b)[i * b.length + j]? = some (x, y)
 | [], i, j, x, y, h, _ => by simp at h
 | z :: zs, i, j, x, y, h, hy => by
  have e : pairsL (z :: zs) b = (b.map fun y => (z, y)) ++ pairsL zs b := by simp [pairsL]
  have hj : j < b.length := (List.getElem?_eq_some_iff.1 hy).1; rw [e]; cases i with
  | zero =>
   rw [Nat.zero_mul, Nat.zero_add, List.getElem?_append_left (by rw [List.length_map]; exact hj), List.getElem?_map, hy]; simp at h; rw [h]; rfl
  | succ i =>
   rw [Nat.succ_mul, List.getElem?_append_right (by rw [List.length_map]; omega), List.length_map, show i * b.length + b.length + j - b.length = i * b.length + j by omega]; exact pairsL_get b zs i j x y (by simpa using h) hy
def PhiPair (x : Gr × Gr) (args : Array Value) (W : World) : Prop := ∃ Aa ca Ab cb Af cf Ag cg, args = #[.agg #[.slice Aa x.1.1.length ca, .slice Ab x.2.1.length cb, .slice Af x.1.2.length cf, .slice Ag x.2.2.length cg]] ∧
 (Kd.R kV tV W 0 (fun _ => True) (.slice Aa x.1.1.length ca) x.1.1 ∧ Kd.R kV tV W 0 (fun _ => True) (.slice Ab x.2.1.length cb) x.2.1) ∧ Kd.R kJ tJ W 0 (fun _ => True) (.slice Af x.1.2.length cf) x.1.2 ∧ Kd.R kJ tJ W 0 (fun _ => True) (.slice Ag x.2.2.length cg) x.2.2
theorem R_step {α : Type} {d : Kd α} {e base : Nat} {ok : Nat → Prop} {v : Value} {xs : List α} {S S' : Nat → Prop} {W W' : World} (h : d.R e W base ok v xs) (hs : Step S S' W W') (hS : ∀ b, S b → b < base) : d.R e W' base ok v xs :=
 Kd.R_mono (Kd.R_move (Kd.R_bound h) fun k hk => hs.keep k hk.2.2.1 (fun hsk => by have := hS k hsk; have := hk.2.1; omega)) (fun _ hk => hk.1)
theorem pairs1_iter (n : Nat) (hn : 20 ≤ n) (A0 A1 : Option Addr) (c0 c1 : Nat) (l r : List EdP) (cp cq : Nat) (R : Nat → Prop) (wE w0 : World)
  (hr0 : Kd.C kE wE A0 l.length l) (hr1 : Kd.C kE wE A1 r.length r) (hE : Below wE.heap.size wE w0) (hcp : w0.cell? ⟨cp, 0, none⟩ = some (.slice A0 l.length c0)) (hcq : w0.cell? ⟨cq, 0, none⟩ = some (.slice A1 r.length c1))
  (hR0 : ∀ b, b < wE.heap.size → R b) (hRp : R cp) (hRq : R cq) (hRw : ∀ b, R b → b < w0.heap.size) (hm0 : mayE l = true) (hm1 : mayE r = true) (hw0 : ∀ e ∈ l, e.f0.length ≤ 4398046511104) (hw1 : ∀ e ∈ r, e.f0.length ≤ 4398046511104) :
  IterOn Fence.wide n Tryz.prog 96 #[.pointer (some ⟨cp, 0, none⟩), .pointer (some ⟨cq, 0, none⟩)] (pairsL (runsP l) (runsP r)) PhiPair R w0 := by
 refine ⟨hRw, fun l' J Jx S W hW hS hJ hJx hY h0 => ?_⟩; have hEW : Below wE.heap.size wE W := hE.trans (hW.below hR0); have HY := Lib.hid hY; have HJ := Lib.hid hJ; have HJX := Lib.hid hJx; have HS := Lib.hid hS; have HR := Lib.hid hr0; have HRR := Lib.hid hr1; have HRW := Lib.hid hw0; have HRV := Lib.hid hw1; have HM0 := Lib.hid hm0; have HM1 := Lib.hid hm1; have HEW := Lib.hid hEW; have H0 := Lib.hid h0; have HR0 := Lib.hid hR0; have cpW := (hW.cell (p := ⟨cp, 0, none⟩) hRp).trans hcp; have CQW := Lib.hid ((hW.cell (p := ⟨cq, 0, none⟩) hRq).trans hcq); have HRq := Lib.hid (show R cq ∧ cq < W.heap.size from ⟨hRq, Nat.lt_of_lt_of_le (hRw cq hRq) hW.size⟩); have GC := Lib.hid (Groups_calls A0 c0 l.length); have GD := Lib.hid (Groups_calls A1 c1 r.length); clear hcp hcq hr0 hr1 hY hJ hJx hS hE hR0 hRp hRq hRw hw0 hw1 hm0 hm1 hEW h0; refine callsIn_of_wp_marks Tryz.func96 rfl trivial ?_ rfl; simp only [Tryz.ntmps96, List.size_toArray, List.length_cons, List.length_nil, Nat.reduceAdd, Nat.reduceSub, Array.replicate_succ, Array.replicate_zero, List.push_toArray, List.append_toArray, List.nil_append, List.cons_append]; have HBA := Lib.hid (below_alloc (Below.refl _ W) (.cells #[.func (.yield l') #[] #[]] 123 (0, 0))); have BX := Lib.hid (show Boxed (W.alloc (.cells #[.func (.yield l') #[] #[]] 123 (0, 0))) W.heap.size 123 (.func (.yield l') #[] #[]) from blk_new W _); have cpA := pw_cell_below HBA.out cpW; gi_wp2; refine wpIn_wide.2 (wp_scope_straight ((wpIn_wide (n := n)).1 ?_)); apply wpIn_seq_k; intro K hK; apply wpIn_label; refine hK _ _ ?_; clear hK K
 gi_wp2_with (refine ⟨trivial, fun _ => ?hn, ?_⟩; (case hn => omega); (with_reducible refine (callsIn_wide.2 (GC.out _)).mono ?_); rintro e w1 ⟨rfl, rfl⟩)
 obtain ⟨w2, hw2⟩ : ∃ w2, W.alloc (.cells #[.func (.yield l') #[] #[]] 123 (0, 0)) = w2 := ⟨_, rfl⟩
 rw [hw2] at HBA BX ⊢; have hit := groups_iterB (n - 1) zq4 A0 c0 l wE w2 HR.out (HEW.out.trans (HBA.out.mono HEW.out.size)) HM0.out HRW.out; obtain ⟨w3, hw3⟩ : ∃ w3, w2.alloc (.cells #[.slice A0 l.length c0] 22 (0, 0)) = w3 := ⟨_, rfl⟩
 have HS3 := Lib.hid (show w3.heap.size = w2.heap.size + 1 by rw [← hw3, World.size_alloc]); have HS2 := Lib.hid (show w2.heap.size = W.heap.size + 1 by rw [← hw2, World.size_alloc]); have HB3 := Lib.hid (show Below W.heap.size W w3 by rw [← hw3]; exact below_alloc HBA.out _); have BX3 := Lib.hid (show Boxed w3 W.heap.size 123 (.func (.yield l') #[] #[]) by rw [← hw3]; exact BX.out.alloc _); rw [HS2.out] at hit; rw [hw3] at hit ⊢; have HIT := Lib.hid hit; have HWE := Lib.hid (show wE.heap.size ≤ W.heap.size from HEW.out.size); obtain ⟨i1, hi1⟩ : ∃ z, runsP l = z := ⟨_, rfl⟩
 obtain ⟨i2, hi2⟩ : ∃ z, runsP r = z := ⟨_, rfl⟩
 rw [hi1] at HIT HY; rw [hi2] at HY; have HI1 := Lib.hid hi1; have HI2 := Lib.hid hi2; obtain ⟨m, hm⟩ : ∃ m, i2.length = m := ⟨_, rfl⟩
 have HMM := Lib.hid hm; have HJL := Lib.hid (show (pairsL i1 i2).length = i1.length * m by rw [pairsL_len, hm]); clear hw2 hw3 hit cpW cpA hi1 hi2 hm; have hS0 : ∀ b, S b → ¬ (b < wE.heap.size ∨ b = W.heap.size + 1) ∧ b < w3.heap.size := by
  intro b hb; have h1 := HS.out b hb; have h2 := HS3.out; have h3 := HS2.out; refine ⟨fun h => ?_, by omega⟩
  rcases h with h | h
  ·exact h1.1 (HR0.out b h)
  ·omega
 have hJ3 := (HJ.out 0 S).below H0.out HB3.out; refine range_outerB (F := Fence.wide) rfl zq4 (gf := 84) (lb := #[.pointer (some ⟨W.heap.size + 1, 0, none⟩)]) rfl trivial (enters_of Tryz.func84 zq17 rfl) HIT.out (Keeps.refl _ _) (fun x args z W h => by obtain ⟨_, _, _, _, rfl, _⟩ := h; rfl)
  (fun k S1 W1 => J (k * m) S1 W1 ∧ Step S S1 w3 W1)
  (fun c S1 W1 => c = .exit 0 ∧ Jx S1 W1 ∧ Step S S1 w3 W1)
  (fun x args n0 a' W1 => ∃ Ar cr Aj cj Br Bj, args = #[.slice Ar x.1.length cr, .slice Aj x.2.length cj] ∧ (n0 ≤ Br ∧ n0 ≤ Bj ∧ w3.heap.size ≤ n0) ∧ a' = { tmps := #[.func (.yield l') #[] #[], .pointer (some ⟨cp, 0, none⟩), .pointer (some ⟨cq, 0, none⟩), .pointer (some ⟨W.heap.size, 0, none⟩), .pointer (some ⟨Br, 0, none⟩), .pointer (some ⟨Bj, 0, none⟩), undef, undef, .slice A0 l.length c0, .func (.func 84) #[] #[.pointer (some ⟨W.heap.size + 1, 0, none⟩)], .slice Ar x.1.length cr, .slice Aj x.2.length cj, undef, undef, undef, undef, undef, undef, undef, undef, undef, undef, undef, undef], defers := [] } ∧
   Boxed W1 Br 39 (.slice Ar x.1.length cr) ∧ Boxed W1 Bj 43 (.slice Aj x.2.length cj))
  (fun k S1 => ((HJ.out _ S1).mono HB3.out.size).and (Grow.step (Nat.le_refl _)))
  (fun c S1 => (Grow.const _ _).and (((HJX.out S1).mono HB3.out.size).and (Grow.step (Nat.le_refl _)))) (fun x args z => Grow.phiB _ _ _ _)
  (fun x args n0 a' => Grow.ex fun _ => Grow.ex fun _ => Grow.ex fun _ => Grow.ex fun _ => Grow.ex fun _ => Grow.ex fun _ => (Grow.const _ _).and ((Grow.const _ _).and ((Grow.const _ _).and ((Grow.boxed _ _ _ _).and (Grow.boxed _ _ _ _)))))
  S hS0 ⟨by rw [Nat.zero_mul]; exact hJ3, Step.refl _ _⟩ ?assign ?body ?done ?stop
 case assign =>
  rintro l2 k S1 x args z W1 K hx ⟨hj, hst⟩ ⟨Ar, cr, Aj, cj, rfl, hphi⟩ hK; have HSZ := Lib.hid hst.size; clear hj hst hphi; have hu39 : Tryz.prog.underlying 39 = some (.slice 65) := by kernel_rfl
  have hu43 : Tryz.prog.underlying 43 = some (.slice 85) := by kernel_rfl
  gi_wp2; exact hK _ _ (below_alloc (below_alloc (Below.refl _ W1) _) _) ⟨Ar, cr, Aj, cj, W1.heap.size, W1.heap.size + 1, rfl, ⟨Nat.le_refl _, Nat.le_succ _, HSZ.out⟩, rfl, blk_alloc (blk_new W1 _) _, by have := blk_new (W1.alloc (.cells #[.slice Ar x.1.length cr] 39 (0, 0))) (.cells #[.slice Aj x.2.length cj] 43 (0, 0)); rw [World.size_alloc] at this; exact this⟩
 case body =>
  rintro l2 k S1 x args z n0 a' W1 hl2 ⟨r0, hr0⟩ hx hSn hzn hnW hSl hkR ⟨hj, hst⟩ ⟨Ar, cr, Aj, cj, he1, hRr, hRj⟩ ⟨Ar2, cr2, Aj2, cj2, Br, Bj, he2, ⟨hb1, hb2, hb3⟩, rfl, bx1, bx2⟩; rw [he1] at he2; cases he2; have hns : ∀ b, S1 b → S b ∨ w3.heap.size ≤ b := hst.sub; have HNS := Lib.hid hns; have byS : ¬ S W.heap.size := fun h => by have := (HS.out _ h).2; omega
  have byS1 : ¬ S1 W.heap.size := hst.not byS BX3.out.lt; have bx0 := hst.boxed BX3.out byS; have cq1 : W1.cell? ⟨cq, 0, none⟩ = some (.slice A1 r.length c1) := by
   have hq := HRq.out; have h3 := HB3.out.size; refine (World.cell?_of_block (w := w3) (a := ⟨cq, 0, none⟩) (hst.keep cq zq4 (fun h => (HS.out cq h).1 hq.1))).trans (pw_cell_below HB3.out CQW.out)
  have hE1 : Below wE.heap.size wE W1 := (HEW.out.trans (HB3.out.mono HEW.out.size)).trans ((hkR.below fun b hb => .inl hb).mono (Nat.le_refl _)); have hit2 := groups_iterB (n - 1 - 1 - 1) zq4 A1 c1 r wE W1 HRR.out hE1 HM1.out HRV.out; rw [HI2.out] at hit2; obtain ⟨w4, hw4⟩ : ∃ w4, W1.alloc (.cells #[.slice A1 r.length c1] 22 (0, 0)) = w4 := ⟨_, rfl⟩
  have HB4 := Lib.hid (show Below W1.heap.size W1 w4 by rw [← hw4]; exact below_alloc (Below.refl _ _) _); have HS4 := Lib.hid (show w4.heap.size = W1.heap.size + 1 by rw [← hw4, World.size_alloc]); rw [hw4] at hit2; have HW4 := Lib.hid hw4; have HIT2 := Lib.hid hit2; have HSN := Lib.hid (show (∀ b, S1 b → b < z) ∧ z ≤ n0 ∧ n0 ≤ W1.heap.size ∧ n0 ≤ Br ∧ n0 ≤ Bj from ⟨hSn, hzn, hnW, hb1, hb2⟩); have HX := Lib.hid hx; have HJ1 := Lib.hid hj; have HST := Lib.hid hst; have HR1 := Lib.hid (Kd.R_below hRr HB4.out); have HR2 := Lib.hid (Kd.R_below hRj HB4.out); have HBX0 := Lib.hid (Boxed.below bx0 HB4.out); have HBX1 := Lib.hid (Boxed.below bx1 HB4.out); have HBX2 := Lib.hid (Boxed.below bx2 HB4.out); have HY0 := Lib.hid byS1; have HL0 := Lib.hid (loop_below HB4.out hr0); have HEz := Lib.hid (show wE.heap.size ≤ w3.heap.size from Nat.le_trans HWE.out HB3.out.size); have HW3 := Lib.hid (show w3.heap.size ≤ n0 from hb3); clear hx hj hst hSn hzn hnW hb1 hb2 hb3 hRr hRj bx0 bx1 bx2 byS byS1 hit2 hw4 hr0 hns hl2 hSl hkR hE1 he1
  gi_wp2_with (refine ⟨trivial, fun _ => ?hn, ?_⟩; (case hn => omega); (with_reducible refine (CallsIn.inRound l2 (callsIn_wide.2 (GD.out _))).mono ?_); rintro e w9 ⟨rfl, rfl⟩)
  rw [HW4.out]; have hS0' : ∀ b, S1 b → ¬ (b < wE.heap.size ∨ b = W1.heap.size) ∧ b < w4.heap.size := by
   intro b hb; have h1 := HSN.out.1 b hb; have h2 := HSN.out.2; have h4 := HS4.out; have h5 := HEz.out; refine ⟨fun h => ?_, by omega⟩
   rcases h with h | h
   ·rcases HNS.out b hb with hs | hs
    ·exact (HS.out b hs).1 (HR0.out b h)
    ·omega
   ·omega
  have hJ4 := (HJ.out (k * m) S1).below HJ1.out (HB4.out); refine range_inner (F := Fence.wide.inRound l2) (l0 := l2) rfl HL0.out zq4 (gf := 84) (lb := #[.pointer (some ⟨W1.heap.size, 0, none⟩)]) rfl trivial (enters_of Tryz.func84 zq17 rfl) (IterOnB.inRound l2 HIT2.out) (Keeps.refl _ _) (fun x args z W h => by obtain ⟨_, _, _, _, rfl, _⟩ := h; rfl)
   (fun j S2 W2 => J (k * m + j) S2 W2 ∧ Step S1 S2 w4 W2)
   (fun c S2 W2 => c = .exit 0 ∧ Jx S2 W2 ∧ Step S1 S2 w4 W2)
   (fun y args _ a' W2 => ∃ As ds Ag dg, args = #[.slice As y.1.length ds, .slice Ag y.2.length dg] ∧ a' = { tmps := #[.func (.yield l') #[] #[], .pointer (some ⟨cp, 0, none⟩), .pointer (some ⟨cq, 0, none⟩), .pointer (some ⟨W.heap.size, 0, none⟩), .pointer (some ⟨Br, 0, none⟩), .pointer (some ⟨Bj, 0, none⟩), .slice As y.1.length ds, .slice Ag y.2.length dg, .slice A0 l.length c0, .func (.func 84) #[] #[.pointer (some ⟨W.heap.size + 1, 0, none⟩)], .slice Ar x.1.length cr, .slice Aj x.2.length cj, .slice A1 r.length c1, .func (.func 84) #[] #[.pointer (some ⟨W1.heap.size, 0, none⟩)], .slice As y.1.length ds, .slice Ag y.2.length dg, undef, undef, undef, undef, undef, undef, undef, undef], defers := [] })
   (fun j S2 => ((HJ.out _ S2).mono ?gb).and (Grow.step (Nat.le_refl _)))
   (fun c S2 => (Grow.const _ _).and (((HJX.out S2).mono ?gc).and (Grow.step (Nat.le_refl _)))) (fun x args z => Grow.phiB _ _ _ _)
   (fun y args _ a' => Grow.const _ _)
   S1 hS0' ⟨by rw [Nat.add_zero]; exact hJ4, Step.refl _ _⟩ ?assign2 ?body2 ?done2 ?stop2
  case gb => exact Nat.le_trans HB3.out.size (Nat.le_trans HST.out.size HB4.out.size)
  case gc => exact Nat.le_trans HB3.out.size (Nat.le_trans HST.out.size HB4.out.size)
  case assign2 =>
   rintro l3 j S2 y args z2 W2 K hy hi2 ⟨As, ds, Ag, dg, rfl, hphi⟩ hK; clear hi2 hphi; gi_wp2; exact hK _ _ (Below.refl _ W2) ⟨As, ds, Ag, dg, rfl, rfl⟩
  case body2 =>
   rintro l3 j S2 y args z2 n2 a' W2 hl3 ⟨r2, hr2⟩ hy hSn2 hzn2 hnW2 hSl2 hkR2 ⟨hj2, hst2⟩ ⟨As, ds, Ag, dg, he1, hRs, hRg⟩ ⟨As2, ds2, Ag2, dg2, he2, rfl⟩; rw [he1] at he2; cases he2; have hns0 : ¬ S1 Br := fun h => by have := HSN.out.1 Br h; have := HSN.out.2; omega
   have hns1 : ¬ S1 Bj := fun h => by have := HSN.out.1 Bj h; have := HSN.out.2; omega
   have cl0 := (hst2.boxed HBX0.out HY0.out).cell; have cl1 := (hst2.boxed HBX1.out hns0).cell; have cl2 := (hst2.boxed HBX2.out hns1).cell; have hSz : ∀ b, S1 b → b < z := HSN.out.1; have hxy : (pairsL i1 i2)[k * m + j]? = some (x, y) := by rw [← HMM.out]; exact pairsL_get i2 i1 k j x y HX.out hy
   obtain ⟨fn, tmps, assign, body, hyy, hRd⟩ := YieldAt.wide (l2 := l3) (m' := n - 1 - 1 - 1 - 1 - 1) (HY.out (k * m + j) (x, y) #[.agg #[.slice Ar x.1.length cr, .slice As y.1.length ds, .slice Aj x.2.length cj, .slice Ag y.2.length dg]] S2 W2 hxy hj2 (fun b hb => Nat.lt_of_lt_of_le (hSn2 b hb) (Nat.le_trans hzn2 hnW2)) ((((Step.of_below HB3.out).trans HST.out).trans (Step.of_below HB4.out)).trans hst2)
    ⟨Ar, cr, As, ds, Aj, cj, Ag, dg, rfl, ⟨Kd.R_lower (R_step HR1.out hst2 hSz) (Nat.zero_le _), Kd.R_lower hRs (Nat.zero_le _)⟩, Kd.R_lower (R_step HR2.out hst2 hSz) (Nat.zero_le _), Kd.R_lower hRg (Nat.zero_le _)⟩)
   have HST2 := Lib.hid hst2; clear hxy hj2 hy hSn2 hzn2 hnW2 hSl2 hkR2 hr2 hl3 hRs hRg he1 hst2 hns0 hns1 hSz; gi_wp2; refine ⟨fun _ => by omega, hRd.mono ?_⟩; rintro e W' (⟨rfl, S3, hs3, hb3, hj3⟩ | ⟨rfl, S3, hs3, hb3, hj3⟩)
   ·have HQ := Lib.hid hs3
    have HB3' := Lib.hid hb3; have HJ3 := Lib.hid hj3; clear hs3 hb3 hj3; gi_wp2; exact ⟨S3, HQ.out, HB3'.out, HJ3.out, HST2.out.trans HQ.out⟩
   ·have HQ := Lib.hid hs3
    have HB3' := Lib.hid hb3; have HJ3 := Lib.hid hj3; clear hs3 hb3 hj3; gi_wp2; exact ⟨S3, HQ.out, HB3'.out, rfl, HJ3.out, HST2.out.trans HQ.out⟩
  case done2 =>
   rintro S2 W2 hst2 hsb2 ⟨hj2, hst3⟩; have HQ := Lib.hid (show Step S1 S2 W1 W2 from (Step.of_below HB4.out).trans hst3); have HSB2 := Lib.hid hsb2; have HJ2 := Lib.hid (show J ((k + 1) * m) S2 W2 by rw [Nat.succ_mul, ← HMM.out] at *; exact hj2); clear hst2 hsb2 hj2 hst3; gi_wp2; exact ⟨S2, HQ.out, HSB2.out, HJ2.out, HST.out.trans HQ.out⟩
  case stop2 =>
   rintro c S2 W2 hst2 hsb2 ⟨rfl, hj2, hst3⟩; have HQ := Lib.hid (show Step S1 S2 W1 W2 from (Step.of_below HB4.out).trans hst3); have HSB2 := Lib.hid hsb2; have HJ2 := Lib.hid hj2; clear hst2 hsb2 hj2 hst3; gi_wp2; exact ⟨S2, HQ.out, HSB2.out, rfl, HJ2.out, HST.out.trans HQ.out⟩
 case done =>
  rintro D S1 W1 hD hSD hst hsb ⟨hj, hst2⟩ hK; have HKK := Lib.hid hK; have HSB := Lib.hid hsb; have HJD := Lib.hid ((HJ.out _ _).put (.deferred none) hj (Nat.le_trans HB3.out.size hD) hK rfl); have HSD := Lib.hid ((Grow.step (S := S) (S1 := S1) (A := W) (Nat.le_refl _)).put (.deferred none) ((Step.of_below HB3.out).trans hst2) (Nat.le_trans HB3.out.size hD) hK rfl); clear hD hSD hst hsb hj hst2 hK; gi_wp2; refine ⟨by simp, .inl ⟨_, _, rfl, run_takeDeferred HKK.out, ?_⟩⟩; exact ⟨_, results_none rfl _ _ _, ⟨_, rfl⟩, S1, HSD.out, fun b hb => by rw [World.putObj_size]; exact HSB.out b hb, .inl (by rw [HI1.out, HI2.out, HJL.out]; exact HJD.out)⟩
 case stop =>
  rintro D c S1 W1 hD hSD hst hsb ⟨rfl, hj, hst2⟩ hK; have HKK := Lib.hid hK; have HSB := Lib.hid hsb; have HJD := Lib.hid ((HJX.out _).put (.deferred none) hj (Nat.le_trans HB3.out.size hD) hK rfl); have HSD := Lib.hid ((Grow.step (S := S) (S1 := S1) (A := W) (Nat.le_refl _)).put (.deferred none) ((Step.of_below HB3.out).trans hst2) (Nat.le_trans HB3.out.size hD) hK rfl); clear hD hSD hst hsb hj hst2 hK; gi_wp2; refine ⟨by simp, .inl ⟨_, _, rfl, run_takeDeferred HKK.out, ?_⟩⟩; exact ⟨_, results_none rfl _ _ _, ⟨_, rfl⟩, S1, HSD.out, fun b hb => by rw [World.putObj_size]; exact HSB.out b hb, .inr HJD.out⟩
attribute [local go_sem] Oper.semAt_some
theorem pairs_calls (A0 A1 : Option Addr) (c0 c1 n0 n1 : Nat) (w : World) :
  Calls Tryz.prog 63 #[.slice A0 n0 c0, .slice A1 n1 c1] w fun e w' => e = .returned (.func (.func 96) #[] #[.pointer (some ⟨w.heap.size, 0, none⟩), .pointer (some ⟨w.heap.size + 1, 0, none⟩)]) ∧
   w' = (w.alloc (.cells #[.slice A0 n0 c0] 22 (0, 0))).alloc (.cells #[.slice A1 n1 c1] 22 (0, 0)) := by
 have hmf : ∀ (fn : Fn) (first cap : Array Value) (w : World), (Instr.makeFunc fn first cap).run Tryz.prog w = .ok (.func fn first cap) w := fun _ _ _ _ => rfl
 go_enter Tryz.func63, Tryz.ntmps63; go_wp2; go_ret; exact ⟨rfl, rfl⟩
def accR (ed : Gr → Gr → List EdP × Int) (out : List EdP) : List (Gr × Gr) → List EdP × Int
 | [] => (out, 0)
 | x :: xs => if (ed x.1 x.2).2 ≠ 0 then ([], (ed x.1 x.2).2) else accR ed (out ++ (ed x.1 x.2).1) xs
theorem accR_drop (ed : Gr → Gr → List EdP × Int) (out : List EdP) (l : List (Gr × Gr)) (k : Nat) (x : Gr × Gr) (h : l[k]? = some x) :
  accR ed out (l.drop k) = if (ed x.1 x.2).2 ≠ 0 then ([], (ed x.1 x.2).2) else accR ed (out ++ (ed x.1 x.2).1) (l.drop (k + 1)) := by
 obtain ⟨hk, hx⟩ := List.getElem?_eq_some_iff.1 h; rw [List.drop_eq_getElem_cons hk, hx, accR]
theorem edgesJ_len (hh : List Vl → Bool × Int) (x y : Gr) : (edgesJ hh x y).1.length ≤ 1024 := by
 unfold edgesJ
 repeat' split
 all_goals first | exact Nat.zero_le _ | exact buildP_len _ _
def PairsIs (hh : List Vl → Bool × Int) (ef : Int) (l r : List EdP) (o : List EdP × Int) : Prop :=
 ((mayE l && mayE r) = false ∧ o = ([], 2)) ∨ ((mayE l && mayE r) = true ∧ ef ≠ 0 ∧ o = ([], ef)) ∨
 ((mayE l && mayE r) = true ∧ ef = 0 ∧ (accR (edgesJ hh) [] (pairsL (runsP l) (runsP r))).2 ≠ 0 ∧ o = ([], (accR (edgesJ hh) [] (pairsL (runsP l) (runsP r))).2)) ∨
 ((mayE l && mayE r) = true ∧ ef = 0 ∧ (accR (edgesJ hh) [] (pairsL (runsP l) (runsP r))).2 = 0 ∧ NormIs (accR (edgesJ hh) [] (pairsL (runsP l) (runsP r))).1 o)
theorem Pairs_calls (hh : List Vl → Bool × Int) (ef : Int) (A0 A1 A2 : Option Addr) (c0 c1 c2 : Nat) (l r : List EdP) (x : List Op8) (w : World) (hr0 : Kd.C kE w A0 l.length l) (hrow : ∀ e ∈ l, e.f0.length ≤ 4398046511104)
  (hr1 : Kd.C kE w A1 r.length r) (hrow1 : ∀ e ∈ r, e.f0.length ≤ 4398046511104)
  (hr2 : Kd.C kO w A2 x.length x) (hc2 : x.length ≤ c2) (hhk : mayE l = true → mayE r = true → ∀ a b, a ∈ runsP l → b ∈ runsP r → (joinV a.1 b.1).2 = 0 → ∃ k, eval_Holds.f k x (joinV a.1 b.1).1 = some (hh (joinV a.1 b.1).1)) (hfk : ∃ k, expr_Form.f k x = some ef) :
  Calls Tryz.prog 29 #[.slice A0 l.length c0, .slice A1 r.length c1, .slice A2 x.length c2] w fun e w' => ∃ v o, PairsIs hh ef l r o ∧ e = .returned (.tuple #[v, .int .i64 o.2]) ∧ Kd.R kE tE w' w.heap.size (fun _ => True) v o.1 ∧ Below w.heap.size w w' := by
 have hu22 : Tryz.prog.underlying 22 = some (.slice 41) := by kernel_rfl
 have hu39 : Tryz.prog.underlying 39 = some (.slice 65) := by kernel_rfl
 have hu43 : Tryz.prog.underlying 43 = some (.slice 85) := by kernel_rfl
 have GC := Lib.hid (pairs_calls A0 A1 c0 c1 l.length r.length); have MA := Lib.hid (fun (w1 : World) (h : Below w.heap.size w w1) => May_calls A0 c0 l w1 (Kd.C_below hr0 h) hrow); have MB := Lib.hid (fun (w1 : World) (h : Below w.heap.size w w1) => May_calls A1 c1 r w1 (Kd.C_below hr1 h) hrow1); have FC := Lib.hid (fun (w1 : World) (h : Below w.heap.size w w1) => (show Calls Tryz.prog 47 #[.slice A2 x.length c2] w1 fun e w' => e = .returned (.int .i64 ef) ∧ Below w1.heap.size w1 w' from hfk.elim fun k hk => expr_Form.calls k A2 c2 x ef w1 (Kd.C_below hr2 h) hc2 hk)); have HR := Lib.hid hr0; have HRR := Lib.hid hr1; have HRX := Lib.hid hr2; have HCX := Lib.hid hc2; have HRW := Lib.hid hrow; have HRV := Lib.hid hrow1; have HHK := Lib.hid hhk; have HPI := Lib.hid (fun o (h : PairsIs hh ef l r o) => h); clear hr0 hr1 hr2 hrow hrow1 hhk hfk hc2; refine (callsIn_wide (n := 40)).1 ?_; refine callsIn_of_wp_marks Tryz.func29 rfl trivial ?_ rfl; simp only [Tryz.ntmps29, List.size_toArray, List.length_cons, List.length_nil, Nat.reduceAdd, Nat.reduceSub, Array.replicate_succ, Array.replicate_zero, List.push_toArray, List.append_toArray, List.nil_append, List.cons_append]; gi_wp2; obtain ⟨W1, hW1⟩ : ∃ W1, ((w.alloc (.cells #[.slice A2 x.length c2] 24 (0, 0))).alloc (.cells #[.slice none 0 0] 22 (0, 0))).alloc (.cells #[.int .i64 0] 27 (0, 0)) = W1 := ⟨_, rfl⟩
 have hsW1 : W1.heap.size = w.heap.size + 3 := by rw [← hW1]; simp
 have hbW1 : Below w.heap.size w W1 := by rw [← hW1]; exact below_alloc (below_alloc (below_alloc (Below.refl _ w) _) _) _
 have bx3 : W1.heap[w.heap.size]? = some (.cells #[.slice A2 x.length c2] 24 (0, 0)) := by
  have h1 := blk_new (w) (.cells #[.slice A2 x.length c2] 24 (0, 0)); rw [← hW1]; exact blk_alloc (blk_alloc (h1) _) _
 have bx4 : W1.heap[w.heap.size + 1]? = some (.cells #[.slice none 0 0] 22 (0, 0)) := by
  have h1 := blk_new (w.alloc (.cells #[.slice A2 x.length c2] 24 (0, 0))) (.cells #[.slice none 0 0] 22 (0, 0)); rw [World.size_alloc] at h1; rw [← hW1]; exact blk_alloc (h1) _
 have bx5 : W1.heap[w.heap.size + 1 + 1]? = some (.cells #[.int .i64 0] 27 (0, 0)) := by
  have h1 := blk_new ((w.alloc (.cells #[.slice A2 x.length c2] 24 (0, 0))).alloc (.cells #[.slice none 0 0] 22 (0, 0))) (.cells #[.int .i64 0] 27 (0, 0)); rw [World.size_alloc, World.size_alloc] at h1; rw [← hW1]; exact h1
 rw [hW1]; refine ⟨trivial, ?_⟩; refine (callsIn_wide.2 (MA.out W1 hbW1)).mono ?_; rintro e w2 ⟨rfl, hb2⟩; have HB2 := Lib.hid (hbW1.trans (hb2.mono hbW1.size)); have HSW := Lib.hid (show w.heap.size + 3 ≤ w2.heap.size by have := hb2.size; omega); have HX3 := Lib.hid (Boxed.below (W := W1) (B := w.heap.size) (t := 24) (v := .slice A2 x.length c2) bx3 hb2); have HX4 := Lib.hid (Boxed.below (W := W1) (B := w.heap.size + 1) (t := 22) (v := .slice none 0 0) bx4 hb2); have HX5 := Lib.hid (Boxed.below (W := W1) (B := w.heap.size + 1 + 1) (t := 27) (v := .int .i64 0) bx5 hb2); clear hW1 hsW1 hbW1 bx3 bx4 bx5 hb2; have cl4 := HX4.out.cell; have fr4 := HX4.out.frozen; have HX5' := Lib.hid (Boxed.other HX5.out (B' := w.heap.size + 1) zq4 (.slice none 0 0)); have cl5 := HX5'.out.cell; have fr5 := HX5'.out.frozen; obtain ⟨m, hm⟩ : ∃ m, mayE l = m := ⟨_, rfl⟩
 rw [hm]; cases m with
 | false =>
  have HO := Lib.hid (HPI.out ([], 2) (.inl ⟨by rw [hm]; rfl, rfl⟩)); have HZ4 := Lib.hid (Boxed.other (HX4.out.set (.slice none 0 0)) (B' := w.heap.size + 1 + 1) zq4 (.int .i64 2)); have HZ5 := Lib.hid (HX5'.out.set (.int .i64 2)); have HZB := Lib.hid (Below.setCell (Below.setCell HB2.out (p := ⟨w.heap.size + 1, 0, none⟩) zq61 (.slice none 0 0)) (p := ⟨w.heap.size + 1 + 1, 0, none⟩) zq52 (.int .i64 2)); clear hm; gi_wp2
  rename_i hk
  refine ⟨trivial, hk _ _ ?_⟩; clear hk; gi_wp2; exact ⟨_, results_c2 rfl _ _ _ rfl HZ4.out.cell (oneC_slice hu22) rfl HZ5.out.cell (oneC_int Tryz.underlying27), _, _, HO.out, rfl, Kd.R_nil _ _ _ _ _, HZB.out⟩
 | true =>
 have HM0 := Lib.hid hm; clear hm; gi_wp2; refine ⟨trivial, ?_⟩; refine (callsIn_wide.2 (MB.out w2 HB2.out)).mono ?_; rintro e w3 ⟨rfl, hb3⟩; have HB3 := Lib.hid (HB2.out.trans (hb3.mono HB2.out.size)); have HSW3 := Lib.hid (show w.heap.size + 3 ≤ w3.heap.size by have := hb3.size; have := HSW.out; omega); have HY3 := Lib.hid (Boxed.below HX3.out hb3); have HY4 := Lib.hid (Boxed.below HX4.out hb3); have HY5 := Lib.hid (Boxed.below HX5.out hb3); clear hb3 HX3 HX4 HX5 HX5' cl4 fr4 cl5 fr5 HB2 HSW; have cl4 := HY4.out.cell; have fr4 := HY4.out.frozen; have HY5' := Lib.hid (Boxed.other HY5.out (B' := w.heap.size + 1) zq4 (.slice none 0 0)); have cl5 := HY5'.out.cell; have fr5 := HY5'.out.frozen; obtain ⟨m, hm⟩ : ∃ m, mayE r = m := ⟨_, rfl⟩
 rw [hm]; cases m with
 | false =>
  have HO := Lib.hid (HPI.out ([], 2) (.inl ⟨by rw [hm, Bool.and_false], rfl⟩)); have HZ4 := Lib.hid (Boxed.other (HY4.out.set (.slice none 0 0)) (B' := w.heap.size + 1 + 1) zq4 (.int .i64 2)); have HZ5 := Lib.hid (HY5'.out.set (.int .i64 2)); have HZB := Lib.hid (Below.setCell (Below.setCell HB3.out (p := ⟨w.heap.size + 1, 0, none⟩) zq61 (.slice none 0 0)) (p := ⟨w.heap.size + 1 + 1, 0, none⟩) zq52 (.int .i64 2)); clear hm; gi_wp2; exact ⟨_, results_c2 rfl _ _ _ rfl HZ4.out.cell (oneC_slice hu22) rfl HZ5.out.cell (oneC_int Tryz.underlying27), _, _, HO.out, rfl, Kd.R_nil _ _ _ _ _, HZB.out⟩
 | true =>
 have HM1 := Lib.hid hm; have HMM := Lib.hid (show (mayE l && mayE r) = true by rw [HM0.out, hm]; rfl); have cl3 := HY3.out.cell; clear hm; gi_wp2; refine ⟨trivial, ?_⟩; refine (callsIn_wide.2 (FC.out w3 HB3.out)).mono ?_; rintro e w4 ⟨rfl, hb4⟩; have HB4 := Lib.hid (HB3.out.trans (hb4.mono HB3.out.size)); have HSW4 := Lib.hid (show w.heap.size + 3 ≤ w4.heap.size by have := hb4.size; have := HSW3.out; omega); have HX3 := Lib.hid (Boxed.below HY3.out hb4); have HX4 := Lib.hid (Boxed.below HY4.out hb4); have HX5 := Lib.hid (Boxed.below HY5.out hb4); clear hb4 HY3 HY4 HY5 HY5' cl3 cl4 fr4 cl5 fr5 HB3 HSW3
 by_cases hef : ef = 0
 case neg =>
  have be : (ef == 0) = false := beq_eq_false_iff_ne.2 hef; have HO := Lib.hid (HPI.out ([], ef) (.inr (.inl ⟨HMM.out, hef, rfl⟩))); have cl4 := HX4.out.cell; have fr4 := HX4.out.frozen; have HX5' := Lib.hid (Boxed.other HX5.out (B' := w.heap.size + 1) zq4 (.slice none 0 0)); have cl5 := HX5'.out.cell; have fr5 := HX5'.out.frozen; have HZ4 := Lib.hid (Boxed.other (HX4.out.set (.slice none 0 0)) (B' := w.heap.size + 1 + 1) zq4 (.int .i64 ef)); have HZ5 := Lib.hid (HX5'.out.set (.int .i64 ef)); have HZB := Lib.hid (Below.setCell (Below.setCell HB4.out (p := ⟨w.heap.size + 1, 0, none⟩) zq61 (.slice none 0 0)) (p := ⟨w.heap.size + 1 + 1, 0, none⟩) zq52 (.int .i64 ef)); clear hef; gi_wp2; exact ⟨_, results_c2 rfl _ _ _ rfl HZ4.out.cell (oneC_slice hu22) rfl HZ5.out.cell (oneC_int Tryz.underlying27), _, _, HO.out, rfl, Kd.R_nil _ _ _ _ _, HZB.out⟩
 case pos =>
 subst hef
 gi_wp2_with (refine ⟨trivial, ?_⟩; (with_reducible refine (callsIn_wide.2 (GC.out _)).mono ?_); rintro e w5 ⟨rfl, rfl⟩)
 obtain ⟨W5, hW5⟩ : ∃ W5, (((w4.alloc (.cells #[] 41 (0, 0))).alloc (.cells #[.slice (some ⟨w4.heap.size, 0, none⟩) 0 0] 22 (0, 0))).alloc (.cells #[.slice A0 l.length c0] 22 (0, 0))).alloc (.cells #[.slice A1 r.length c1] 22 (0, 0)) = W5 := ⟨_, rfl⟩
 have hsW5 : W5.heap.size = w4.heap.size + 4 := by rw [← hW5]; simp
 have hbW5 : Below w4.heap.size w4 W5 := by rw [← hW5]; exact below_alloc (below_alloc (below_alloc (below_alloc (Below.refl _ w4) _) _) _) _
 have bk0 : W5.heap[w4.heap.size]? = some (.cells #[] 41 (0, 0)) := by
  have h1 := blk_new (w4) (.cells #[] 41 (0, 0)); rw [← hW5]; exact blk_alloc (blk_alloc (blk_alloc (h1) _) _) _
 have bx7 : W5.heap[w4.heap.size + 1]? = some (.cells #[.slice (some ⟨w4.heap.size, 0, none⟩) 0 0] 22 (0, 0)) := by
  have h1 := blk_new (w4.alloc (.cells #[] 41 (0, 0))) (.cells #[.slice (some ⟨w4.heap.size, 0, none⟩) 0 0] 22 (0, 0)); rw [World.size_alloc] at h1; rw [← hW5]; exact blk_alloc (blk_alloc (h1) _) _
 have bp : W5.heap[w4.heap.size + 1 + 1]? = some (.cells #[.slice A0 l.length c0] 22 (0, 0)) := by
  have h1 := blk_new ((w4.alloc (.cells #[] 41 (0, 0))).alloc (.cells #[.slice (some ⟨w4.heap.size, 0, none⟩) 0 0] 22 (0, 0))) (.cells #[.slice A0 l.length c0] 22 (0, 0)); rw [World.size_alloc, World.size_alloc] at h1; rw [← hW5]; exact blk_alloc (h1) _
 have bq : W5.heap[w4.heap.size + 1 + 1 + 1]? = some (.cells #[.slice A1 r.length c1] 22 (0, 0)) := by
  have h1 := blk_new (((w4.alloc (.cells #[] 41 (0, 0))).alloc (.cells #[.slice (some ⟨w4.heap.size, 0, none⟩) 0 0] 22 (0, 0))).alloc (.cells #[.slice A0 l.length c0] 22 (0, 0))) (.cells #[.slice A1 r.length c1] 22 (0, 0)); rw [World.size_alloc, World.size_alloc, World.size_alloc] at h1; rw [← hW5]; exact h1
 have hit := pairs1_iter 39 zq4 A0 A1 c0 c1 l r (w4.heap.size + 1 + 1) (w4.heap.size + 1 + 1 + 1) (fun b => b < w.heap.size ∨ (b = w4.heap.size + 1 + 1 ∨ b = w4.heap.size + 1 + 1 + 1)) w W5 HR.out HRR.out (HB4.out.trans (hbW5.mono HB4.out.size)) ((blk_cell bp 0).trans rfl) ((blk_cell bq 0).trans rfl) (fun b h => .inl h) (.inr (.inl rfl)) (.inr (.inr rfl)) (fun b hb => by have := HSW4.out; rcases hb with h | h | h <;> omega) HM0.out HM1.out HRW.out HRV.out; obtain ⟨its, hits⟩ : ∃ x, pairsL (runsP l) (runsP r) = x := ⟨_, rfl⟩
 have HIM := Lib.hid (show ∀ y ∈ its, y.1 ∈ runsP l ∧ y.2 ∈ runsP r from fun y h => by
  rw [← hits] at h; unfold pairsL at h; obtain ⟨a, ha, hb⟩ := List.mem_flatMap.1 h; obtain ⟨b, hc, rfl⟩ := List.mem_map.1 hb; exact ⟨ha, hc⟩)
 have HIL := Lib.hid (show its.length ≤ 16777216 by
  rw [← hits, pairsL_len]; exact Nat.mul_le_mul (Nat.le_trans (runs_len l) (mayE_len HM0.out)) (Nat.le_trans (runs_len r) (mayE_len HM1.out)))
 rw [hits] at hit; have HBI := Lib.hid (fun o (h : (((accR (edgesJ hh) [] its).2 ≠ 0 ∧ o = ([], (accR (edgesJ hh) [] its).2)) ∨ ((accR (edgesJ hh) [] its).2 = 0 ∧ NormIs (accR (edgesJ hh) [] its).1 o))) => HPI.out o (by unfold PairsIs; rw [hits]; exact h.elim (fun h => .inr (.inr (.inl ⟨HMM.out, rfl, h⟩))) (fun h => .inr (.inr (.inr ⟨HMM.out, rfl, h⟩))))); rw [hW5]; have HS5 := Lib.hid hsW5; have HB5 := Lib.hid (HB4.out.trans (hbW5.mono HB4.out.size)); have HZ3 := Lib.hid (Boxed.below HX3.out hbW5); have HZ4 := Lib.hid (Boxed.below HX4.out hbW5); have HZ5 := Lib.hid (Boxed.below HX5.out hbW5); have HZ7 := Lib.hid (show Boxed W5 (w4.heap.size + 1) 22 (.slice (some ⟨w4.heap.size, 0, none⟩) 0 0) from bx7); have HO5 := Lib.hid (show Kd.R kE tE W5 w.heap.size (fun _ => True) (.slice (some ⟨w4.heap.size, 0, none⟩) 0 0) [] from ⟨fun _ _ => trivial, [], ⟨rfl, .inr ⟨w4.heap.size, 0, #[], rfl, by have := HSW4.out; omega, bk0, Nat.le_refl _, Nat.zero_le _, rfl, rfl⟩⟩, Reps.none _ _⟩); have HIT := Lib.hid hit; clear hW5 hsW5 hbW5 bk0 bx7 bp bq hit hits HX3 HX4 HX5; have hS0 : ∀ b, (fun b => OwnS (w4.heap.size + 1) (.slice (some ⟨w4.heap.size, 0, none⟩) 0 0) b ∨ (b = w.heap.size + 1 ∨ b = w.heap.size + 1 + 1)) b → ¬ (b < w.heap.size ∨ (b = w4.heap.size + 1 + 1 ∨ b = w4.heap.size + 1 + 1 + 1)) ∧ b < W5.heap.size := by
  intro b hb; have h1 := HS5.out; have h2 := HSW4.out
  rcases hb with (rfl | hb) | hb
  ·omega
  ·have : w4.heap.size = b := by simpa [Value.ownBlock] using hb
   omega
  ·omega
 refine range_outer (F := Fence.wide) rfl zq4 (gf := 96) (lb := #[.pointer (some ⟨w4.heap.size + 1 + 1, 0, none⟩), .pointer (some ⟨w4.heap.size + 1 + 1 + 1, 0, none⟩)]) rfl trivial (enters_of Tryz.func96 zq17 rfl) HIT.out (Keeps.refl _ _) (fun x args W h => by obtain ⟨_, _, _, _, _, _, _, _, rfl, _⟩ := h; rfl)
  (fun k S W => ∃ v out, S = (fun b => OwnS (w4.heap.size + 1) (v) b ∨ (b = w.heap.size + 1 ∨ b = w.heap.size + 1 + 1)) ∧ Boxed W w.heap.size 24 (.slice A2 x.length c2) ∧ Boxed W (w.heap.size + 1) 22 (.slice none 0 0) ∧ Boxed W (w.heap.size + 1 + 1) 27 (.int .i64 0) ∧
   Boxed W (w4.heap.size + 1) 22 v ∧ Kd.R kE tE W w.heap.size (fun _ => True) v out ∧ Below w.heap.size w W ∧ (out.length ≤ k * 1024 ∧ accR (edgesJ hh) [] its = accR (edgesJ hh) out (its.drop k)))
  (fun c S W => c = .ret ∧ ∃ e, Boxed W (w.heap.size + 1) 22 (.slice none 0 0) ∧ Boxed W (w.heap.size + 1 + 1) 27 (.int .i64 e) ∧ Below w.heap.size w W ∧ accR (edgesJ hh) [] its = ([], e) ∧ e ≠ 0)
  (fun y args a' W => ∃ Aa ca Ab cb Af cf Ag cg Bp, args = #[.agg #[.slice Aa y.1.1.length ca, .slice Ab y.2.1.length cb, .slice Af y.1.2.length cf, .slice Ag y.2.2.length cg]] ∧
   a' = { tmps := #[.slice A0 l.length c0, .slice A1 r.length c1, .slice A2 x.length c2, undef, undef, .pointer (some ⟨w.heap.size, 0, none⟩), .pointer (some ⟨w.heap.size + 1, 0, none⟩), .pointer (some ⟨w.heap.size + 1 + 1, 0, none⟩), .int .i64 0, .pointer (some ⟨w4.heap.size + 1, 0, none⟩), .pointer (some ⟨Bp, 0, none⟩), undef, undef, .slice A0 l.length c0, .bool true, .bool false, .bool false, .slice A1 r.length c1, .bool true, .bool false, .bool false, .slice A2 x.length c2, .int .i64 0, .int .i64 0, .bool false, undef, .slice (some ⟨w4.heap.size, 0, none⟩) 0 0, .slice A0 l.length c0, .slice A1 r.length c1, .func (.func 96) #[] #[.pointer (some ⟨w4.heap.size + 1 + 1, 0, none⟩), .pointer (some ⟨w4.heap.size + 1 + 1 + 1, 0, none⟩)], .agg #[.slice Aa y.1.1.length ca, .slice Ab y.2.1.length cb, .slice Af y.1.2.length cf, .slice Ag y.2.2.length cg], undef, undef, undef, undef, undef, undef, undef, undef, undef, undef, undef, undef, undef, undef, undef, undef], defers := [] } ∧
   W.heap[Bp]? = some (.cells #[.slice Aa y.1.1.length ca, .slice Ab y.2.1.length cb, .slice Af y.1.2.length cf, .slice Ag y.2.2.length cg] 90 (0, 0)))
  (fun k S => Grow.ex fun v => Grow.ex fun out => (Grow.const _ _).and ((Grow.boxed _ _ _ _).and ((Grow.boxed _ _ _ _).and ((Grow.boxed _ _ _ _).and ((Grow.boxed _ _ _ _).and ((Grow.R _ _ _ _ _ _).and ((Grow.base (by have := HS5.out; have := HSW4.out; omega) w (Nat.le_refl _)).and (Grow.const _ _))))))))
  (fun c S => (Grow.const _ _).and (Grow.ex fun e => (Grow.boxed _ _ _ _).and ((Grow.boxed _ _ _ _).and ((Grow.base (by have := HS5.out; have := HSW4.out; omega) w (Nat.le_refl _)).and (Grow.const _ _)))))
  (fun y args => Grow.ex fun _ => Grow.ex fun _ => Grow.ex fun _ => Grow.ex fun _ => Grow.ex fun _ => Grow.ex fun _ => Grow.ex fun _ => Grow.ex fun _ => (Grow.const _ _).and (((Grow.R _ _ _ _ _ _).and (Grow.R _ _ _ _ _ _)).and ((Grow.R _ _ _ _ _ _).and (Grow.R _ _ _ _ _ _))))
  (fun y args a' => Grow.ex fun _ => Grow.ex fun _ => Grow.ex fun _ => Grow.ex fun _ => Grow.ex fun _ => Grow.ex fun _ => Grow.ex fun _ => Grow.ex fun _ => Grow.ex fun _ => (Grow.const _ _).and ((Grow.const _ _).and (Grow.blk _ _ _ _ _)))
  (fun b => OwnS (w4.heap.size + 1) (.slice (some ⟨w4.heap.size, 0, none⟩) 0 0) b ∨ (b = w.heap.size + 1 ∨ b = w.heap.size + 1 + 1)) hS0 ⟨_, [], rfl, HZ3.out, HZ4.out, HZ5.out, HZ7.out, HO5.out, HB5.out, Nat.zero_le _, by rw [List.drop_zero]⟩ ?assign ?body ?done ?stop
 case assign =>
  rintro l' k S y args W K hx hi ⟨Aa, ca, Ab, cb, Af, cf, Ag, cg, rfl, hphi⟩ hK; clear hi hphi; gi_wp2; exact hK _ _ (below_alloc (Below.refl _ W) _) ⟨Aa, ca, Ab, cb, Af, cf, Ag, cg, W.heap.size, rfl, rfl, blk_new W _⟩
 case body =>
  rintro l' k S y args a' W hl' ⟨r0, hr0⟩ hx hSb hSl hkR ⟨v, out, rfl, bx3, bx4, bx5, bx7, hRo, hBW, hout, hEE⟩ ⟨Aa, ca, Ab, cb, Af, cf, Ag, cg, he1, ⟨hRa, hRb⟩, hRf, hRg⟩ ⟨Aa2, ca2, Ab2, cb2, Af2, cf2, Ag2, cg2, Bp, he2, rfl, hbp⟩; rw [he1] at he2; cases he2; dsimp only []; have hxm := HIM.out y (List.mem_of_getElem? hx); have HH := Lib.hid (accR_drop (edgesJ hh) out its k y hx); have HK := Lib.hid (show k < 16777216 by have h1 := (List.getElem?_eq_some_iff.1 hx).1; have := HIL.out; omega); have HV := Lib.hid (edges_calls hh y.1 y.2 Aa Ab Af Ag A2 ca cb cf cg c2 x W hRa hRb hRf hRg (Kd.C_below HRX.out hBW) HCX.out (HHK.out HM0.out HM1.out y.1 y.2 hxm.1 hxm.2)); have HEL := Lib.hid (edgesJ_len hh y.1 y.2); obtain ⟨⟨es, he⟩, hhb⟩ : ∃ z, edgesJ hh y.1 y.2 = z := ⟨_, rfl⟩
  rw [hhb] at HV HH HEL; have HBX3 := Lib.hid bx3; have HBX4 := Lib.hid bx4; have HBX5 := Lib.hid bx5; have HBX7 := Lib.hid bx7; have HRO := Lib.hid hRo; have HBW := Lib.hid hBW; have HEE := Lib.hid hEE; have HOUT := Lib.hid hout; have HSB := Lib.hid hSb; have cl3 := bx3.cell; obtain ⟨na, hna⟩ : ∃ n, y.1.1.length = n := ⟨_, rfl⟩
  obtain ⟨nb, hnb⟩ : ∃ n, y.2.1.length = n := ⟨_, rfl⟩
  obtain ⟨nf, hnf⟩ : ∃ n, y.1.2.length = n := ⟨_, rfl⟩
  obtain ⟨ng, hng⟩ : ∃ n, y.2.2.length = n := ⟨_, rfl⟩
  rw [hna, hnb, hnf, hng] at hbp HV ⊢; have y0 : W.cell? ⟨Bp, 0, none⟩ = some (.slice Aa na ca) := (blk_cell hbp 0).trans rfl; have y1 : W.cell? ⟨Bp, 1, none⟩ = some (.slice Ab nb cb) := (blk_cell hbp 1).trans rfl; have y2 : W.cell? ⟨Bp, 2, none⟩ = some (.slice Af nf cf) := (blk_cell hbp 2).trans rfl; have y3 : W.cell? ⟨Bp, 3, none⟩ = some (.slice Ag ng cg) := (blk_cell hbp 3).trans rfl; clear hRa hRb hRf hRg bx3 bx4 bx5 bx7 hBW hEE hx he1 hSb hSl hkR hr0 hl' hRo hout hxm hhb hna hnb hnf hng hbp; gi_wp2; refine ⟨trivial, ?_⟩; refine (CallsIn.inRound l' (callsIn_wide.2 HV.out)).mono ?_; rintro e w6 ⟨ve, rfl, hRe, hb6⟩; simp only at hRe ⊢; obtain ⟨Ae, ce, rfl, hce, hRd⟩ := OwnRow.reads hRe.2; have HRD := Lib.hid hRd; have HB6 := Lib.hid hb6; clear hb6 hRe y0 y1 y2 y3 cl3 hce hRd; have HQ3 := Lib.hid (Boxed.below HBX3.out HB6.out); have HQ4 := Lib.hid (Boxed.below HBX4.out HB6.out); have HQ5 := Lib.hid (Boxed.below HBX5.out HB6.out); have HQ7 := Lib.hid (Boxed.below HBX7.out HB6.out); have HRO6 := Lib.hid (Kd.R_below HRO.out HB6.out)
  by_cases hee : he = 0
  ·have be : (he == 0) = true := by rw [hee]; rfl
   have HH2 := Lib.hid (show accR (edgesJ hh) [] its = accR (edgesJ hh) (out ++ es) (its.drop (k + 1)) by rw [HEE.out, HH.out, if_neg (by simp [hee])]); clear hee; obtain ⟨o2, ho2⟩ : ∃ o2, out ++ es = o2 := ⟨_, rfl⟩
   have HL2 := Lib.hid (show o2.length ≤ (k + 1) * 1024 by have h1 := HOUT.out; have h3 : es.length ≤ 1024 := HEL.out; rw [← ho2, List.length_append]; omega); rw [ho2] at HH2; have HO2 := Lib.hid ho2; have c7 := HQ7.out.cell; have HOWN := Lib.hid (fun b (h : v.ownBlock = some b) => (own_ltR HRO.out h).2); clear ho2
   gi_wp2_with (refine wpListIn_append_R kE w.heap.size rfl _ _ 22 41 (.agg #[.slice none 0 0, (.int .i64 0), (.int .i64 0)]) 40 rfl hu22 info41 rfl zq34 zq4 v out es _ _ _ (fun _ => True) (fun k => W.heap.size ≤ k) rfl rfl HRO6.out HRD.out ?aM ?aK (fun _ _ => trivial) ?aS ?aL ?_)
   case aM => exact fun z cs h => kE.M_lower HBW.out.size (kE.M_mono (fun q hq => hq.2.1) (kE.M_bound h))
   case aK => exact fun q hq e' => Nat.lt_irrefl _ (Nat.lt_of_lt_of_le (HOWN.out q e'.symm) hq)
   case aS => exact Nat.le_trans HBW.out.size HB6.out.size
   case aL => have h1 := HOUT.out; have h2 := HK.out; have h3 : es.length ≤ 1024 := HEL.out; omega
   intro v1 w8 ho hb hat; rw [HO2.out] at ho; obtain ⟨Az, cz, rfl⟩ := Kd.R_slice ho; have HR7 := Lib.hid HRO6.out; obtain ⟨z1, z2, z3, z4, z5⟩ := box_Rt HQ7.out HR7.out zq34 ho hb hat; have d7 := z1.cell; have g7 := z1.frozen; have HK3 := Lib.hid (HQ3.out.kept hb (Kd.R_ne HR7.out HQ3.out zq34)); have HK4 := Lib.hid (HQ4.out.kept hb (Kd.R_ne HR7.out HQ4.out zq34)); have HK5 := Lib.hid (HQ5.out.kept hb (Kd.R_ne HR7.out HQ5.out zq34)); have HG := Lib.hid hb; have HZ2 := Lib.hid z2; have HZ3 := Lib.hid z3; have HZ4 := Lib.hid z4; have HZ5 := Lib.hid z5; clear z1 z2 z3 z4 z5 ho hb hat c7; have HY := Lib.hid ((Step.of_below (S := (fun b => OwnS (w4.heap.size + 1) v b ∨ (b = w.heap.size + 1 ∨ b = w.heap.size + 1 + 1))) HB6.out).trans (HZ4.out.wide (fun b => b = w.heap.size + 1 ∨ b = w.heap.size + 1 + 1))); have HB7w := Lib.hid (HBW.out.trans (HB6.out.mono HBW.out.size)); have hn4 : w.heap.size + 1 ≠ w4.heap.size + 1 := by have := HSW4.out; omega
   have hn5 : w.heap.size + 1 + 1 ≠ w4.heap.size + 1 := by have := HSW4.out; omega
   have hn3 : w.heap.size ≠ w4.heap.size + 1 := by have := HSW4.out; omega
   have HW4 := Lib.hid (Boxed.other HK4.out hn4 (.slice Az o2.length cz)); have HW5 := Lib.hid (Boxed.other HK5.out hn5 (.slice Az o2.length cz)); have HBF := Lib.hid (Below.setCell (HB7w.out.trans (grown_base HR7.out HG.out HB7w.out.size)) (p := ⟨w4.heap.size + 1, 0, none⟩) (by show _ ≤ w4.heap.size + 1; have := HSW4.out; omega) (.slice Az o2.length cz)); have HYB := Lib.hid (show ∀ b, (fun b => OwnS (w4.heap.size + 1) (.slice Az o2.length cz) b ∨ (b = w.heap.size + 1 ∨ b = w.heap.size + 1 + 1)) b → b < (w8.setCell ⟨w4.heap.size + 1, 0, none⟩ (.slice Az o2.length cz)).heap.size from fun b hb => hb.elim (HZ5.out b) (fun hb => hb.elim (fun h => h.symm ▸ HW4.out.lt) (fun h => h.symm ▸ HW5.out.lt))); gi_wp2; exact ⟨_, HY.out, HYB.out, _, rfl, Boxed.other HK3.out hn3 _, HW4.out, HW5.out, HZ2.out, o2, HZ3.out, HBF.out, HL2.out, HH2.out⟩
  ·have be : (he == 0) = false := beq_eq_false_iff_ne.2 hee
   have HNE := Lib.hid hee; have HH2 := Lib.hid (show accR (edgesJ hh) [] its = ([], he) by rw [HEE.out, HH.out, if_pos hee]); clear hee; have q4 := HQ4.out.cell; have f4 := HQ4.out.frozen; have HQ5' := Lib.hid (Boxed.other HQ5.out (B' := w.heap.size + 1) zq4 (.slice none 0 0)); have q5 := HQ5'.out.cell; have f5 := HQ5'.out.frozen; have HE1 := Lib.hid (((Step.of_below (S := (fun b => OwnS (w4.heap.size + 1) v b ∨ (b = w.heap.size + 1 ∨ b = w.heap.size + 1 + 1))) HB6.out).trans (step_set (.inr (.inl rfl)) (.slice none 0 0))).trans (step_set (.inr (.inr rfl)) (.int .i64 he))); have HE14 := Lib.hid (Boxed.other (HQ4.out.set (.slice none 0 0)) (B' := w.heap.size + 1 + 1) zq4 (.int .i64 he)); have HE15 := Lib.hid (HQ5'.out.set (.int .i64 he)); have HE1W := Lib.hid (Below.setCell (Below.setCell (HBW.out.trans (HB6.out.mono HBW.out.size)) (p := ⟨w.heap.size + 1, 0, none⟩) zq61 (.slice none 0 0)) (p := ⟨w.heap.size + 1 + 1, 0, none⟩) zq52 (.int .i64 he)); gi_wp2; exact ⟨_, HE1.out, fun b hb => Nat.lt_of_lt_of_le (HSB.out b hb) HE1.out.size, rfl, HE14.out, he, HE15.out, HE1W.out, HH2.out, HNE.out⟩
 case done =>
  rintro D S W hD hSD hst hsb ⟨v, out, rfl, bx3, bx4, bx5, bx6, hRo, hBW, hout, hEE⟩ hK; obtain ⟨Av, cv, rfl⟩ := Kd.R_slice hRo; rw [List.drop_length] at hEE; have hEE2 : accR (edgesJ hh) [] its = (out, 0) := hEE; have HBI2 := Lib.hid (fun r (h : NormIs out r) => HBI.out r (.inr ⟨by rw [hEE2], by rw [hEE2]; exact h⟩)); have hD4 : D ≠ w.heap.size + 1 := by have := HS5.out; have := HSW4.out; omega
  have hD5 : D ≠ w.heap.size + 1 + 1 := by have := HS5.out; have := HSW4.out; omega
  have HD := Lib.hid (show w.heap.size ≤ D by have := HS5.out; have := HSW4.out; omega); have cl6 := bx6.cell; have HX4D := Lib.hid bx4; have HX5D := Lib.hid bx5; have HBWD := Lib.hid hBW; have HKD := Lib.hid hK; have NC := Lib.hid (NormE_calls Av cv out W (Kd.R_reads' hRo).2.2 (by have := HIL.out; omega)); clear hst hsb hSD bx3 bx4 bx5 bx6 hBW hEE hEE2 hRo hK; gi_wp2; refine ⟨trivial, ?_⟩; refine (callsIn_wide.2 NC.out).mono ?_; rintro e w7 ⟨vn, rn, hnorm, rfl, hRn, hb7⟩; obtain ⟨An, cn, rfl⟩ := Kd.R_slice hRn; have HRES := Lib.hid (HBI2.out rn hnorm); have bx4 := Boxed.below HX4D.out hb7; have bx5 := Boxed.below HX5D.out hb7; have hK7 : w7.heap[D]? = some (.deferred (some [])) := (hb7.block D (Array.getElem?_eq_some_iff.1 HKD.out).1).trans HKD.out; have hBW7 := HBWD.out.trans (hb7.mono HBWD.out.size); have hRo := Kd.R_lower hRn HBWD.out.size; have cl4 := bx4.cell; have fr4 := bx4.frozen; have HB4' := Lib.hid (Boxed.other (bx4.set (.slice An rn.1.length cn)) (B' := w.heap.size + 1 + 1) zq4 (.int .i64 rn.2)); have hb5 := Boxed.other bx5 (B' := w.heap.size + 1) zq4 (.slice An rn.1.length cn); have cl5 := hb5.cell; have fr5 := hb5.frozen; have HB5' := Lib.hid (hb5.set (.int .i64 rn.2)); have HK2 := Lib.hid (show ((w7.setCell ⟨w.heap.size + 1, 0, none⟩ (.slice An rn.1.length cn)).setCell ⟨w.heap.size + 1 + 1, 0, none⟩ (.int .i64 rn.2)).heap[D]? = some (.deferred (some [])) from ((Below.heap_setCell _ ⟨w.heap.size + 1 + 1, 0, none⟩ (.int .i64 rn.2) D hD5).trans (Below.heap_setCell w7 ⟨w.heap.size + 1, 0, none⟩ (.slice An rn.1.length cn) D hD4)).trans hK7); have HBY' := Lib.hid (Below.setCell (Below.setCell hBW7 (p := ⟨w.heap.size + 1, 0, none⟩) zq61 (.slice An rn.1.length cn)) (p := ⟨w.heap.size + 1 + 1, 0, none⟩) zq52 (.int .i64 rn.2)); have HRZ := Lib.hid ((Grow.R D tE w.heap.size (fun _ => True) (.slice An rn.1.length cn) rn.1).put (.deferred none) (Kd.R_set (Kd.R_set hRo bx4 zq34 0 (.slice An rn.1.length cn)) hb5 zq34 0 (.int .i64 rn.2)) (Nat.le_refl D) HK2.out rfl); clear bx4 bx5 hb5 hRo hRn hb7 hK7 hBW7 hnorm; gi_wp2; refine ⟨by simp, .inl ⟨_, _, rfl, run_takeDeferred HK2.out, ?_⟩⟩; exact ⟨_, results_c2 rfl _ _ _ rfl (Boxed.cell (put_boxed HB4'.out hD4.symm _)) (oneC_slice hu22) rfl (Boxed.cell (put_boxed HB5'.out hD5.symm _)) (oneC_int Tryz.underlying27), _, rn, HRES.out, rfl, HRZ.out, below_put (Nat.le_refl _) _ HBY'.out HD.out⟩
 case stop =>
  rintro D c S W hD hSD hst hsb ⟨rfl, e, bx4, bx5, hBW, hEE, hne⟩ hK; have HRES := Lib.hid (HBI.out ([], e) (.inl ⟨by rw [hEE]; exact hne, by rw [hEE]⟩)); have hD4 : D ≠ w.heap.size + 1 := by have := HS5.out; have := HSW4.out; omega
  have hD5 : D ≠ w.heap.size + 1 + 1 := by have := HS5.out; have := HSW4.out; omega
  have HD := Lib.hid (show w.heap.size ≤ D by have := HS5.out; have := HSW4.out; omega); have HB4' := Lib.hid bx4; have HB5' := Lib.hid bx5; have HBY' := Lib.hid hBW; have HK2 := Lib.hid hK; clear hK bx4 bx5 hBW hEE hst hsb hSD hne; gi_wp2; refine ⟨by simp, .inl ⟨_, _, rfl, run_takeDeferred HK2.out, ?_⟩⟩; exact ⟨_, results_c2 rfl _ _ _ rfl (Boxed.cell (put_boxed HB4'.out hD4.symm _)) (oneC_slice hu22) rfl (Boxed.cell (put_boxed HB5'.out hD5.symm _)) (oneC_int Tryz.underlying27), _, [], e, HRES.out, rfl, Kd.R_nil _ _ _ _ _, below_put (Nat.le_refl _) _ HBY'.out HD.out⟩
end Go.Proofs.YtmkgecapkeojaaaGreat.Eg
end
section
namespace Go.Proofs.YtmkgecapkeojaaaGreat.Eg
open Go.Proofs.YtmkgecapkeojaaaGreat Go.Proofs.YtmkgecapkeojaaaGreat.PDa
open Go.RowKit Go.Proofs.YtmkgecapkeojaaaGreatW.PrintWords Go.Proofs.YtmkgecapkeojaaaGreatW.PrintLast Go.Proofs.YtmkgecapkeojaaaGreatW.PrintMore
open Go.Proofs.YtmkgecapkeojaaaGreat.Stp Go.Proofs.YtmkgecapkeojaaaGreat.Rw Go.Proofs.YtmkgecapkeojaaaGreat.SortM
theorem hsame_calls (A0 A1 : Option Addr) (c0 c1 : Nat) (l : List EdP) (w : World) (hr0 : Kd.C kE w A0 l.length l) (hc0 : l.length ≤ c0) (hr1 : Kd.C kE w A1 l.length l) (hc1 : l.length ≤ c1) (hl : l.length ≤ 1000000000) (hrow : ∀ e ∈ l, e.f0.length ≤ 4398046511104) :
  Calls Tryz.prog 20 #[.slice A0 l.length c0, .slice A1 l.length c1] w fun e w' => e = .returned (.bool true) ∧ Below w.heap.size w w' := by
 have HA := Lib.hid hr0; have HD := Lib.hid hr1; have HRW := Lib.hid hrow; have HL := Lib.hid hl; clear hr0 hr1 hrow hc0 hc1 hl; go_enter Tryz.func20, Tryz.ntmps20; go_wp2
 go_loopw [5] (fun v5 wr => ∃ (i : Nat), i ≤ l.length ∧ v5 = .int .i64 (i : Int) ∧ Aside0 (Below w.heap.size w wr)) (fun v5 wr => l.length - (intOf v5).toNat)
 case atStart => exact ⟨0, Nat.zero_le _, rfl, ⟨Below.refl _ _⟩⟩
 case round =>
  obtain ⟨i, hi, rfl, HB⟩ := hrel; have hll := HL.out
  by_cases c : i < l.length
  ·obtain ⟨X, hX⟩ : ∃ X, l[i] = X := ⟨_, rfl⟩
   obtain ⟨ad, Ax, cx, e1, x0, x1, x2, x3, x4⟩ := at_T41 (Kd.C_below HA.out HB.out) (i : Int) zq4 zq4; obtain ⟨bd, Ay, cy, e2, y0, y1, y2, y3, y4⟩ := at_T41 (Kd.C_below HD.out HB.out) (i : Int) zq4 zq4; rw [Int.toNat_natCast, rdE l i c, hX] at x0 x1 x2 y0 y1 y2; rw [rdE l i c, hX] at x3 x4 y3 y4; cases e1; cases e2; have hs := same06 X.f0 X.f0 (HRW.out X (by rw [← hX]; exact List.getElem_mem c)); rw [eqR_refl] at hs; obtain ⟨ks, hks⟩ := hs.get; have CM := Lib.hid (fun (p : BelowOf wr) => (show Calls Tryz.prog 53 #[.slice Ax X.f0.length cx, .slice Ay X.f0.length cy] p.W (fun e w' => e = .returned (.bool true) ∧ Below p.W.heap.size p.W w') from (r06_Same.calls ks Ax cx X.f0 Ay cy X.f0 true p.W (Kd.C_below x4 p.h) x3 (Kd.C_below y4 p.h) y3 hks).mono fun e w' z => ⟨z.1, z.2.below⟩)); have x0' := fun p => BelowOf.cell x0 p
   have x1' := fun p => BelowOf.cell x1 p
   have x2' := fun p => BelowOf.cell x2 p
   have y0' := fun p => BelowOf.cell y0 p
   have y1' := fun p => BelowOf.cell y1 p
   have y2' := fun p => BelowOf.cell y2 p
   have pI : (0 ≤ (i : Int)) = True := eq_true zq4; have qI : ((i : Int) < (l.length : Int)) = True := eq_true zq4; clear x3 x4 y3 y4 hs hks hX; go_wp2; refine wp_region_quiet_below zq17 zq17 ?_
   repeat (go_big_quiet_step (exact below_calls (CM.out _)))
   refine wpQuiet_nil ?_; intro wq hw1; have HWQ := Lib.hid (show Below wr.heap.size wr wq by obtain ⟨p, rfl⟩ := hw1; exact p.h); have HBN := Lib.hid (HB.out.trans (HWQ.out.mono HB.out.size)); clear hw1 x0' x1' x2' y0' y1' y2' x0 x1 x2 y0 y1 y2; go_wp2; go_roundw
   case rel => exact ⟨i + 1, by omega, by go_num, ⟨HBN.out⟩⟩
   case measure => simp [intOf]; omega
  ·obtain rfl : i = l.length := by omega
   go_wp2; go_ret; exact ⟨rfl, HB.out⟩
end Go.Proofs.YtmkgecapkeojaaaGreat.Eg
end
section
namespace Go.Proofs.YtmkgecapkeojaaaGreat.Eg
open Go.Proofs.YtmkgecapkeojaaaGreat Go.Proofs.YtmkgecapkeojaaaGreat.PDa
open Go.RowKit Go.Proofs.YtmkgecapkeojaaaGreatW.PrintWords Go.Proofs.YtmkgecapkeojaaaGreatW.PrintLast Go.Proofs.YtmkgecapkeojaaaGreatW.PrintMore
open Go.Proofs.YtmkgecapkeojaaaGreat.Stp Go.Proofs.YtmkgecapkeojaaaGreat.Rw
structure Hold (p : Prop) : Prop where
 out : p
theorem hold_intro {p : Prop} (h : Hold p) : p := h.out
def v1 : Vl := ⟨1, 1, ⟨#[]⟩⟩
def v2 : Vl := ⟨1, 2, ⟨#[]⟩⟩
def e1 : EdP := ⟨[v1], 2, 1⟩
def e2 : EdP := ⟨[v1], 5, -1⟩
def e3 : EdP := ⟨[v2], 5, 1⟩
theorem C_lit {α : Type} {d : Kd α} {W : World} {B : Nat} {t : TypeId} {cs : Array Value} {ps qs : List α} {inner : List Value} {n : Nat} (hq : ps = qs) (hb : W.heap[B]? = some (.cells cs t (0, 0))) (hi : cs.toList = inner) (hn : qs.length = n) (hn2 : n ≤ 100) (hr : Reps (d.K W) d.sz ps inner) : Kd.C d W (some ⟨B, 0, none⟩) n qs := by
 subst hq; subst hn; have ho : OwnRow (d.K W) t d.sz W 0 (.slice (some ⟨B, 0, none⟩) ps.length ps.length) ps := ⟨inner, ⟨hr.1, .inr ⟨B, ps.length, cs, rfl, Nat.zero_le _, hb, Nat.le_refl _, by unfold maxLen; omega, by rw [← Array.length_toList, hi, hr.1], by rw [hi, List.take_of_length_le (by rw [hr.1]; exact Nat.le_refl _)]⟩⟩, hr⟩
 obtain ⟨A, c, he, _, h⟩ := OwnRow.reads ho; cases he; exact h
end Go.Proofs.YtmkgecapkeojaaaGreat.Eg
end
section
namespace Go.Proofs.YtmkgecapkeojaaaGreat.Eg
open Go.Proofs.YtmkgecapkeojaaaGreat Go.Proofs.YtmkgecapkeojaaaGreat.PDa
open Go.RowKit Go.Proofs.YtmkgecapkeojaaaGreatW.PrintWords Go.Proofs.YtmkgecapkeojaaaGreatW.PrintLast Go.Proofs.YtmkgecapkeojaaaGreatW.PrintMore
open Go.Proofs.YtmkgecapkeojaaaGreat.Stp Go.Proofs.YtmkgecapkeojaaaGreat.Run Go.Proofs.YtmkgecapkeojaaaGreat.Rw
structure Hold2 (p : Prop) : Prop where
 out : p
end Go.Proofs.YtmkgecapkeojaaaGreat.Eg
end
section
namespace Go.Proofs.YtmkgecapkeojaaaGreat.Eg
open Go.Proofs.YtmkgecapkeojaaaGreat Go.Proofs.YtmkgecapkeojaaaGreat.PDa
open Go.RowKit Go.Proofs.YtmkgecapkeojaaaGreatW.PrintWords Go.Proofs.YtmkgecapkeojaaaGreatW.PrintLast Go.Proofs.YtmkgecapkeojaaaGreatW.PrintMore
open Go.Proofs.YtmkgecapkeojaaaGreat.Stp Go.Proofs.YtmkgecapkeojaaaGreat.Rw
def Ans (r : List EdP × Int) (w : World) (e : Ending) (w' : World) : Prop := ∃ A c, e = .returned (.tuple #[.slice A r.1.length c, .int .i64 r.2]) ∧ Kd.C kE w' A r.1.length r.1 ∧ r.1.length ≤ c ∧ Below w.heap.size w w'
theorem normV_cases (l : List EdP) : (okN l ∧ Fit (flat l) ∧ normV l = (flat l, 0)) ∨ ∃ k, k ≠ 0 ∧ normV l = ([], k) := by
 by_cases h : (normV l).2 = 0
 ·exact .inl (okN_of_norm h)
 ·refine .inr ⟨(normV l).2, h, ?_⟩
  by_cases hok : okN l
  ·rcases normV_flat hok with ⟨_, h2⟩ | ⟨_, h2⟩
   ·rw [h2] at h; exact absurd rfl h
   ·rw [h2]
  ·unfold normV
   split
   ·rfl
   ·split
    ·rfl
    ·rename_i h1 h2
     rw [Bool.not_eq_true, List.any_eq_false] at h1 h2; exact absurd ⟨fun e he => by simpa using h1 e he, fun e he => by simpa using h2 e he⟩ hok
theorem okEs_sub {l l' : List EdP} (h : PDd.okEs l = true) (hs : ∀ e ∈ l', ∃ e' ∈ l, e'.f0 = e.f0) : PDd.okEs l' = true := by
 unfold PDd.okEs at h ⊢; rw [List.all_eq_true] at h ⊢; intro e he; obtain ⟨e', he', h1⟩ := hs e he; have := h e' he'; rw [h1] at this; exact this
end Go.Proofs.YtmkgecapkeojaaaGreat.Eg
end
