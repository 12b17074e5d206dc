/- Texts of this claim, put together by a program: LawAA, WSized. -/
import Derived.Test.YtmkgecapkeojaaaGreatY10
import Derived.SizedLaws
import Derived.ChangeSlices
set_option linter.unusedVariables false
set_option linter.unusedSimpArgs false
set_option maxHeartbeats 8000000
set_option maxRecDepth 100000
section
namespace Go.Proofs.YtmkgecapkeojaaaGreat.Eg
open Go.Proofs.YtmkgecapkeojaaaGreat Go.Proofs.YtmkgecapkeojaaaGreat.PDa
open Go.RowKit Go.Proofs.YtmkgecapkeojaaaGreatW.PrintWords Go.Proofs.YtmkgecapkeojaaaGreatW.PrintLast Go.Proofs.YtmkgecapkeojaaaGreatW.PrintMore
open Go.Proofs.YtmkgecapkeojaaaGreat.Stp Go.Proofs.YtmkgecapkeojaaaGreat.Rw
theorem antiAhead_calls (A0 A1 A2 : Option Addr) (c0 c1 c2 : Nat) (l r : List EdP) (x : List Op8) (t : Int) (w : World)
  (hr0 : Kd.C kE w A0 l.length l) (hr1 : Kd.C kE w A1 r.length r) (hr2 : Kd.C kO w A2 x.length x) (hc2 : x.length ≤ c2)
  (hl : PDd.okEs l = true) (hr : PDd.okEs r = true) (hx : PDd.okXs x = true) :
  Calls Tryz.prog 15 #[.slice A0 l.length c0, .slice A1 r.length c1, .slice A2 x.length c2, .int .i64 t] w fun e w' => e = .returned (.bool true) ∧ Below w.heap.size w w' := by
 have LV := Lib.hid (fun w1 => liveA_calls w1); have PA := Lib.hid (alone_any A0 A1 A2 c0 c1 c2 l r x w hr0 hr1 hr2 hc2 hl hr hx); have GL := Lib.hid (fun (w1 : World) (h : Below w.heap.size w w1) => ahead_any A0 c0 l t w1 (Kd.C_below hr0 h) (PDd.okEs_row hl)); have GR := Lib.hid (fun (w1 : World) (h : Below w.heap.size w w1) => ahead_any A1 c1 r t w1 (Kd.C_below hr1 h) (PDd.okEs_row hr)); have hp0 := allP_row t l; have hq0 := allP_row t r; have ha0 := aloneV_row (EvP.holdsV x) (EvP.formV x) l r; obtain ⟨za, hza⟩ : ∃ z, aloneV (EvP.holdsV x) (EvP.formV x) l r = z := ⟨_, rfl⟩
 obtain ⟨zp, hzp⟩ : ∃ z, allP (aheadV t) l = z := ⟨_, rfl⟩
 obtain ⟨zq, hzq⟩ : ∃ z, allP (aheadV t) r = z := ⟨_, rfl⟩
 rw [hza] at PA ha0; rw [hzp] at GL hp0; rw [hzq] at GR hq0; obtain ⟨a, e1⟩ := za; obtain ⟨p, e3⟩ := zp; obtain ⟨q, e4⟩ := zq; have okp : PDd.okEs p = true := okEs_sub hl hp0.1; have okq : PDd.okEs q = true := okEs_sub hr hq0.1; have GA := Lib.hid (fun (A : Option Addr) (c : Nat) (w1 : World) (hC : Kd.C kE w1 A a.length a) => ahead_any A c a t w1 hC (fun e he => by have := ha0.1 e he; omega)); have PC := Lib.hid (fun (A B : Option Addr) (c d : Nat) (w1 : World) (h : Below w.heap.size w w1) (hC : Kd.C kE w1 A p.length p) (hD : Kd.C kE w1 B q.length q) => alone_any A B A2 c d c2 p q x w1 hC hD (Kd.C_below hr2 h) hc2 okp okq hx); obtain ⟨zb, hzb⟩ : ∃ z, allP (aheadV t) a = z := ⟨_, rfl⟩
 obtain ⟨zc, hzc⟩ : ∃ z, aloneV (EvP.holdsV x) (EvP.formV x) p q = z := ⟨_, rfl⟩
 have hc0 := aloneV_row (EvP.holdsV x) (EvP.formV x) p q; rw [hzb] at GA; rw [hzc] at PC hc0; obtain ⟨b, e2⟩ := zb; obtain ⟨c, e5⟩ := zc; have F1 := Lib.hid (show (∀ e ∈ c, e.f0.length ≤ 4398046511104) ∧ c.length ≤ 1000000000 from ⟨fun e he => by have := hc0.1 e he; omega, by have := hc0.2.1; simp only at this; omega⟩); have XX := Lib.hid (fun (h1 : e1 = 0) (h2 : e2 = 0) (h3 : e3 = 0) (h4 : e4 = 0) (h5 : e5 = 0) => (show b = c by
  subst h1 h2 h3 h4 h5; exact alone_ahead hza hzb hzp hzq hzc))
 clear hr0 hr1 hr2 hc2 hl hr hx hp0 hq0 ha0 hza hzp hzq okp okq hzb hzc hc0; go_enter Tryz.func15, Tryz.ntmps15
 go_wp2_with fail
 refine PA.out.mono ?_; rintro e w1 ⟨Aa, ca, rfl, hCa, hca, hb1⟩; have HB1 := Lib.hid hb1; have GA1 := Lib.hid (GA.out Aa ca w1 hCa); clear hCa hca hb1 PA GA
 go_wp2_with fail
 refine GA1.out.mono ?_; rintro e w2 ⟨Ab, cb, rfl, hCb, hcb, hb2⟩; have HB2 := Lib.hid (HB1.out.trans (hb2.mono HB1.out.size)); have HFb := Lib.hid (fun (w3 : World) (h : Below w2.heap.size w2 w3) => Kd.C_below hCb h); have HCb := Lib.hid hcb; clear hCb hcb hb2 GA1
 go_wp2_with fail
 refine (GL.out w2 HB2.out).mono ?_; rintro e w3 ⟨Ap, cp, rfl, hCp, hcp, hb3⟩; have HD3 := Lib.hid hb3; have HB3 := Lib.hid (HB2.out.trans (hb3.mono HB2.out.size)); have HFp := Lib.hid (fun (w4 : World) (h : Below w3.heap.size w3 w4) => Kd.C_below hCp h); clear hCp hcp hb3 GL
 go_wp2_with fail
 refine (GR.out w3 HB3.out).mono ?_; rintro e w4 ⟨Aq, cq, rfl, hCq, hcq, hb4⟩; have HD4 := Lib.hid (HD3.out.trans (hb4.mono HD3.out.size)); have HB4 := Lib.hid (HB3.out.trans (hb4.mono HB3.out.size)); have PC1 := Lib.hid (PC.out Ap Aq cp cq w4 HB4.out (HFp.out w4 hb4) hCq); clear hCq hcq hb4 GR PC HFp
 go_wp2_with fail
 refine PC1.out.mono ?_; rintro e w5 ⟨Ac, cz, rfl, hCc, hcc, hb5⟩; have HD5 := Lib.hid (HD4.out.trans (hb5.mono HD4.out.size)); have HB5 := Lib.hid (HB4.out.trans (hb5.mono HB4.out.size)); have HFc := Lib.hid (fun (w6 : World) (h : Below w5.heap.size w5 w6) => Kd.C_below hCc h); have HCc := Lib.hid hcc; clear hCc hcc hb5 PC1 HD3 HD4; have FIN := Lib.hid (show ∀ w9, Below w.heap.size w w9 → Calls Tryz.prog 40 #[] w9 fun e w' => e = .returned (.bool true) ∧ Below w.heap.size w w' from fun w9 h => (LV.out w9).mono fun e w' z => ⟨z.1, h.trans (z.2.mono h.size)⟩)
 by_cases h1 : e1 = 0
 case neg =>
  have q : (e1 != 0) = true := by simpa using h1
  clear h1 XX
  go_wp2_with fail
  refine (FIN.out _ HB5.out).mono ?_; rintro e w9 ⟨rfl, hb9⟩; go_wp2; go_ret; exact ⟨rfl, hb9⟩
 case pos =>
 by_cases h2 : e2 = 0
 case neg =>
  subst h1; have q : (e2 != 0) = true := by simpa using h2
  clear h2 XX
  go_wp2_with fail
  refine (FIN.out _ HB5.out).mono ?_; rintro e w9 ⟨rfl, hb9⟩; go_wp2; go_ret; exact ⟨rfl, hb9⟩
 case pos =>
 by_cases h3 : e3 = 0
 case neg =>
  subst h1 h2; have q : (e3 != 0) = true := by simpa using h3
  clear h3 XX
  go_wp2_with fail
  refine (FIN.out _ HB5.out).mono ?_; rintro e w9 ⟨rfl, hb9⟩; go_wp2; go_ret; exact ⟨rfl, hb9⟩
 case pos =>
 by_cases h4 : e4 = 0
 case neg =>
  subst h1 h2 h3; have q : (e4 != 0) = true := by simpa using h4
  clear h4 XX
  go_wp2_with fail
  refine (FIN.out _ HB5.out).mono ?_; rintro e w9 ⟨rfl, hb9⟩; go_wp2; go_ret; exact ⟨rfl, hb9⟩
 case pos =>
 by_cases h5 : e5 = 0
 case neg =>
  subst h1 h2 h3 h4; have q : (e5 != 0) = true := by simpa using h5
  clear h5 XX
  go_wp2_with fail
  refine (FIN.out _ HB5.out).mono ?_; rintro e w9 ⟨rfl, hb9⟩; go_wp2; go_ret; exact ⟨rfl, hb9⟩
 case pos =>
 obtain rfl := XX.out h1 h2 h3 h4 h5; subst h1 h2 h3 h4 h5; clear XX
 go_wp2_with fail
 refine (LV.out w5).mono ?_; rintro e w6 ⟨rfl, hb6⟩; have HB6 := Lib.hid (HB5.out.trans (hb6.mono HB5.out.size)); have SM := Lib.hid (hsame_calls Ab Ac cb cz b w6 (HFb.out w6 (HD5.out.trans (hb6.mono HD5.out.size))) HCb.out (HFc.out w6 hb6) HCc.out F1.out.2 F1.out.1); clear hb6
 go_wp2_with fail
 refine SM.out.mono ?_; rintro e w7 ⟨rfl, hb7⟩; have HB7 := Lib.hid (HB6.out.trans (hb7.mono HB6.out.size)); clear hb7; go_wp2; go_ret; exact ⟨rfl, HB7.out⟩
theorem antiAhead_walk (A0 : Option Addr) (c0 : Nat) (l0 : List EdP) (A1 : Option Addr) (c1 : Nat) (l1 : List EdP) (A2 : Option Addr) (c2 : Nat) (l2 : List Op8) (t : Int) (w : World) (hr0 : Kd.C k41 w A0 l0.length l0) (hc0 : l0.length ≤ c0) (h0 : wfEs l0)
  (hr1 : Kd.C k41 w A1 l1.length l1) (hc1 : l1.length ≤ c1) (h1 : wfEs l1) (hr2 : Kd.C k68 w A2 l2.length l2) (hc2 : l2.length ≤ c2) (h2 : wfX l2) (h3 : EvP.R64 t) :
  Calls Tryz.prog 15 #[.slice A0 l0.length c0, .slice A1 l1.length c1, .slice A2 l2.length c2, .int .i64 t] w fun e w' => e = .returned (.bool true) ∧ Below w.heap.size w w' :=
 antiAhead_calls A0 A1 A2 c0 c1 c2 l0 l1 l2 t w hr0 hr1 hr2 hc2 (okEs_wf h0) (okEs_wf h1) (okXs_wf h2)
end Go.Proofs.YtmkgecapkeojaaaGreat.Eg
end
