/- Texts of this claim, put together by a program: HSame, Live, LawF, RefPut, RefNorm, RefProj, LawP, Any, JoinL, LiveP, LiveJ, LawFW, LawJS, WSized. -/
import Derived.Test.YtmkgecapkeojaaaGreatU10
import Derived.Deep.DeepCutAuto
import Derived.SizedLaws
import Derived.ChangeSlices
set_option linter.unusedVariables false
set_option linter.unusedSimpArgs false
set_option maxHeartbeats 8000000
set_option maxRecDepth 100000
section
namespace Go.Proofs.YtmkgecapkeojaaaGreat.Eg
open Go.Proofs.YtmkgecapkeojaaaGreat Go.Proofs.YtmkgecapkeojaaaGreat.PDa
open Go.RowKit Go.Proofs.YtmkgecapkeojaaaGreatW.PrintWords Go.Proofs.YtmkgecapkeojaaaGreatW.PrintLast Go.Proofs.YtmkgecapkeojaaaGreatW.PrintMore
open Go.Proofs.YtmkgecapkeojaaaGreat.Stp Go.Proofs.YtmkgecapkeojaaaGreat.Rw Go.Proofs.YtmkgecapkeojaaaGreat.SortM
theorem hsame_calls (A0 A1 : Option Addr) (c0 c1 : Nat) (l : List EdP) (w : World) (hr0 : Kd.C kE w A0 l.length l) (hc0 : l.length ≤ c0) (hr1 : Kd.C kE w A1 l.length l) (hc1 : l.length ≤ c1) (hl : l.length ≤ 1000000000) (hrow : ∀ e ∈ l, e.f0.length ≤ 4398046511104) :
  Calls Tryz.prog 20 #[.slice A0 l.length c0, .slice A1 l.length c1] w fun e w' => e = .returned (.bool true) ∧ Below w.heap.size w w' := by
 have HA := Lib.hid hr0; have HD := Lib.hid hr1; have HRW := Lib.hid hrow; have HL := Lib.hid hl; clear hr0 hr1 hrow hc0 hc1 hl; go_enter Tryz.func20, Tryz.ntmps20; go_wp2
 go_loopw [5] (fun v5 wr => ∃ (i : Nat), i ≤ l.length ∧ v5 = .int .i64 (i : Int) ∧ Aside0 (Below w.heap.size w wr)) (fun v5 wr => l.length - (intOf v5).toNat)
 case atStart => exact ⟨0, Nat.zero_le _, rfl, ⟨Below.refl _ _⟩⟩
 case round =>
  obtain ⟨i, hi, rfl, HB⟩ := hrel; have hll := HL.out
  by_cases c : i < l.length
  ·obtain ⟨X, hX⟩ : ∃ X, l[i] = X := ⟨_, rfl⟩
   obtain ⟨ad, Ax, cx, e1, x0, x1, x2, x3, x4⟩ := at_T41 (Kd.C_below HA.out HB.out) (i : Int) zq4 zq4; obtain ⟨bd, Ay, cy, e2, y0, y1, y2, y3, y4⟩ := at_T41 (Kd.C_below HD.out HB.out) (i : Int) zq4 zq4; rw [Int.toNat_natCast, rdE l i c, hX] at x0 x1 x2 y0 y1 y2; rw [rdE l i c, hX] at x3 x4 y3 y4; cases e1; cases e2; have hs := same06 X.f0 X.f0 (HRW.out X (by rw [← hX]; exact List.getElem_mem c)); rw [eqR_refl] at hs; obtain ⟨ks, hks⟩ := hs.get; have CM := Lib.hid (fun (p : BelowOf wr) => (show Calls Tryz.prog 53 #[.slice Ax X.f0.length cx, .slice Ay X.f0.length cy] p.W (fun e w' => e = .returned (.bool true) ∧ Below p.W.heap.size p.W w') from (r06_Same.calls ks Ax cx X.f0 Ay cy X.f0 true p.W (Kd.C_below x4 p.h) x3 (Kd.C_below y4 p.h) y3 hks).mono fun e w' z => ⟨z.1, z.2.below⟩)); have x0' := fun p => BelowOf.cell x0 p
   have x1' := fun p => BelowOf.cell x1 p
   have x2' := fun p => BelowOf.cell x2 p
   have y0' := fun p => BelowOf.cell y0 p
   have y1' := fun p => BelowOf.cell y1 p
   have y2' := fun p => BelowOf.cell y2 p
   have pI : (0 ≤ (i : Int)) = True := eq_true zq4; have qI : ((i : Int) < (l.length : Int)) = True := eq_true zq4; clear x3 x4 y3 y4 hs hks hX; go_wp2; refine wp_region_quiet_below zq17 zq17 ?_
   repeat (go_big_quiet_step (exact below_calls (CM.out _)))
   refine wpQuiet_nil ?_; intro wq hw1; have HWQ := Lib.hid (show Below wr.heap.size wr wq by obtain ⟨p, rfl⟩ := hw1; exact p.h); have HBN := Lib.hid (HB.out.trans (HWQ.out.mono HB.out.size)); clear hw1 x0' x1' x2' y0' y1' y2' x0 x1 x2 y0 y1 y2; go_wp2; go_roundw
   case rel => exact ⟨i + 1, by omega, by go_num, ⟨HBN.out⟩⟩
   case measure => simp [intOf]; omega
  ·obtain rfl : i = l.length := by omega
   go_wp2; go_ret; exact ⟨rfl, HB.out⟩
end Go.Proofs.YtmkgecapkeojaaaGreat.Eg
end
section
namespace Go.Proofs.YtmkgecapkeojaaaGreat.Eg
open Go.Proofs.YtmkgecapkeojaaaGreat Go.Proofs.YtmkgecapkeojaaaGreat.PDa
open Go.RowKit Go.Proofs.YtmkgecapkeojaaaGreatW.PrintWords Go.Proofs.YtmkgecapkeojaaaGreatW.PrintLast Go.Proofs.YtmkgecapkeojaaaGreatW.PrintMore
open Go.Proofs.YtmkgecapkeojaaaGreat.Stp Go.Proofs.YtmkgecapkeojaaaGreat.Rw
structure Hold (p : Prop) : Prop where
 out : p
theorem hold_intro {p : Prop} (h : Hold p) : p := h.out
def v1 : Vl := ⟨1, 1, ⟨#[]⟩⟩
def v2 : Vl := ⟨1, 2, ⟨#[]⟩⟩
def e1 : EdP := ⟨[v1], 2, 1⟩
def e2 : EdP := ⟨[v1], 5, -1⟩
def e3 : EdP := ⟨[v2], 5, 1⟩
theorem C_lit {α : Type} {d : Kd α} {W : World} {B : Nat} {t : TypeId} {cs : Array Value} {ps qs : List α} {inner : List Value} {n : Nat} (hq : ps = qs) (hb : W.heap[B]? = some (.cells cs t (0, 0))) (hi : cs.toList = inner) (hn : qs.length = n) (hn2 : n ≤ 100) (hr : Reps (d.K W) d.sz ps inner) : Kd.C d W (some ⟨B, 0, none⟩) n qs := by
 subst hq; subst hn; have ho : OwnRow (d.K W) t d.sz W 0 (.slice (some ⟨B, 0, none⟩) ps.length ps.length) ps := ⟨inner, ⟨hr.1, .inr ⟨B, ps.length, cs, rfl, Nat.zero_le _, hb, Nat.le_refl _, by unfold maxLen; omega, by rw [← Array.length_toList, hi, hr.1], by rw [hi, List.take_of_length_le (by rw [hr.1]; exact Nat.le_refl _)]⟩⟩, hr⟩
 obtain ⟨A, c, he, _, h⟩ := OwnRow.reads ho; cases he; exact h
end Go.Proofs.YtmkgecapkeojaaaGreat.Eg
end
section
namespace Go.Proofs.YtmkgecapkeojaaaGreat.Eg
open Go.Proofs.YtmkgecapkeojaaaGreat Go.Proofs.YtmkgecapkeojaaaGreat.PDa
open Go.RowKit Go.Proofs.YtmkgecapkeojaaaGreatW.PrintWords Go.Proofs.YtmkgecapkeojaaaGreatW.PrintLast Go.Proofs.YtmkgecapkeojaaaGreatW.PrintMore
open Go.Proofs.YtmkgecapkeojaaaGreat.Stp Go.Proofs.YtmkgecapkeojaaaGreat.Run Go.Proofs.YtmkgecapkeojaaaGreat.Rw
structure Hold2 (p : Prop) : Prop where
 out : p
end Go.Proofs.YtmkgecapkeojaaaGreat.Eg
end
section
namespace Go.Proofs.YtmkgecapkeojaaaGreat.Eg
open Go.Proofs.YtmkgecapkeojaaaGreat Go.Proofs.YtmkgecapkeojaaaGreat.PDa
open Go.RowKit Go.Proofs.YtmkgecapkeojaaaGreatW.PrintWords Go.Proofs.YtmkgecapkeojaaaGreatW.PrintLast Go.Proofs.YtmkgecapkeojaaaGreatW.PrintMore
open Go.Proofs.YtmkgecapkeojaaaGreat.Stp Go.Proofs.YtmkgecapkeojaaaGreat.Rw
def Ans (r : List EdP × Int) (w : World) (e : Ending) (w' : World) : Prop := ∃ A c, e = .returned (.tuple #[.slice A r.1.length c, .int .i64 r.2]) ∧ Kd.C kE w' A r.1.length r.1 ∧ r.1.length ≤ c ∧ Below w.heap.size w w'
theorem add_any (A0 A1 : Option Addr) (c0 c1 : Nat) (a b : List EdP) (w : World) (hr0 : Kd.C kE w A0 a.length a) (hr1 : Kd.C kE w A1 b.length b) (hw0 : ∀ e ∈ a, e.f0.length ≤ 4398046511104) (hw1 : ∀ e ∈ b, e.f0.length ≤ 4398046511104) :
  Calls Tryz.prog 33 #[.slice A0 a.length c0, .slice A1 b.length c1] w (Ans (addV a b) w) := by
 refine (Add_calls A0 A1 c0 c1 a b w hr0 hr1 hw0 hw1).mono ?_; rintro e w' ⟨v, r, hr, rfl, hR, hb⟩; obtain rfl := add_is hr; obtain ⟨A, c, rfl⟩ := Kd.R_slice hR; exact ⟨A, c, rfl, (Kd.R_reads' hR).2.2, (Kd.R_reads' hR).2.1, hb⟩
theorem normV_cases (l : List EdP) : (okN l ∧ Fit (flat l) ∧ normV l = (flat l, 0)) ∨ ∃ k, k ≠ 0 ∧ normV l = ([], k) := by
 by_cases h : (normV l).2 = 0
 ·exact .inl (okN_of_norm h)
 ·refine .inr ⟨(normV l).2, h, ?_⟩
  by_cases hok : okN l
  ·rcases normV_flat hok with ⟨_, h2⟩ | ⟨_, h2⟩
   ·rw [h2] at h; exact absurd rfl h
   ·rw [h2]
  ·unfold normV
   split
   ·rfl
   ·split
    ·rfl
    ·rename_i h1 h2
     rw [Bool.not_eq_true, List.any_eq_false] at h1 h2; exact absurd ⟨fun e he => by simpa using h1 e he, fun e he => by simpa using h2 e he⟩ hok
theorem addV_row (a b : List EdP) : (∀ e ∈ (addV a b).1, ∃ e' ∈ a ++ b, e'.f0 = e.f0) ∧ (addV a b).1.length ≤ 4096 := by
 unfold addV
 split
 ·rcases normV_cases (a ++ b) with ⟨_, h1, h2⟩ | ⟨k, _, h2⟩ <;> rw [h2]
  ·exact ⟨fun e he => flat_row he, h1.2⟩
  ·exact ⟨by simp, by simp⟩
 ·exact ⟨by simp, by simp⟩
theorem okEs_sub {l l' : List EdP} (h : PDd.okEs l = true) (hs : ∀ e ∈ l', ∃ e' ∈ l, e'.f0 = e.f0) : PDd.okEs l' = true := by
 unfold PDd.okEs at h ⊢; rw [List.all_eq_true] at h ⊢; intro e he; obtain ⟨e', he', h1⟩ := hs e he; have := h e' he'; rw [h1] at this; exact this
theorem okEs_add {a b : List EdP} (ha : PDd.okEs a = true) (hb : PDd.okEs b = true) : PDd.okEs (a ++ b) = true := by
 unfold PDd.okEs at ha hb ⊢; rw [List.all_append, ha, hb]; rfl
end Go.Proofs.YtmkgecapkeojaaaGreat.Eg
end
section
namespace Go.Proofs.YtmkgecapkeojaaaGreat.Eg
open Go.Proofs.YtmkgecapkeojaaaGreat Go.Proofs.YtmkgecapkeojaaaGreat.PDa
open Go.Proofs.YtmkgecapkeojaaaGreat.EvP (evalV formV holdsV)
open Go.RowKit Go.Proofs.YtmkgecapkeojaaaGreatW.PrintWords Go.Proofs.YtmkgecapkeojaaaGreat.Stp Go.Proofs.YtmkgecapkeojaaaGreat.Rw Go.Proofs.YtmkgecapkeojaaaGreat.Cmp Go.Proofs.YtmkgecapkeojaaaGreat.Canon
def pairsV (hh : List Vl → Bool × Int) (ef : Int) (l r : List EdP) : List EdP × Int :=
 if (mayE l && mayE r) = true then (if ef ≠ 0 then ([], ef) else if (accR (edgesJ hh) [] (pairsL (runsP l) (runsP r))).2 ≠ 0 then ([], (accR (edgesJ hh) [] (pairsL (runsP l) (runsP r))).2)
  else normV (accR (edgesJ hh) [] (pairsL (runsP l) (runsP r))).1) else ([], 2)
theorem pairs_is {hh : List Vl → Bool × Int} {ef : Int} {l r : List EdP} {o : List EdP × Int} (h : PairsIs hh ef l r o) : o = pairsV hh ef l r := by
 unfold pairsV
 rcases h with ⟨h1, h2⟩ | ⟨h1, h2, h3⟩ | ⟨h1, h2, h3, h4⟩ | ⟨h1, h2, h3, h4⟩
 ·rw [if_neg (by rw [h1]; decide), h2]
 ·rw [if_pos h1, if_pos h2, h3]
 ·rw [if_pos h1, if_neg (by simpa using h2), if_pos h3, h4]
 ·rw [if_pos h1, if_neg (by simpa using h2), if_neg (by simpa using h3)]; exact norm_is h4
def Wt (φ : List Vl → Int) (t : Int) (l : List EdP) : Int := S (fun k => if k.2 ≤ t then φ k.1 else 0) (l.map pE)
theorem Wt_append (φ : List Vl → Int) (t : Int) (a b : List EdP) : Wt φ t (a ++ b) = Wt φ t a + Wt φ t b := by unfold Wt; rw [List.map_append, S_append]
theorem Wt_J (φ : List Vl → Int) (t : Int) {a b : List EdP} (h : ∀ k, JE a k = JE b k) : Wt φ t a = Wt φ t b := S_congr _ h
theorem Wt_nil (φ : List Vl → Int) (t : Int) : Wt φ t [] = 0 := rfl
theorem Wt_cons (φ : List Vl → Int) (t : Int) (e : EdP) (es : List EdP) : Wt φ t (e :: es) = (if e.f1 ≤ t then φ e.f0 else 0) * e.f2 + Wt φ t es := rfl
theorem Wt_put (φ : List Vl → Int) (t : Int) (r : List Vl) : ∀ f : List Jp, Wt φ t (putP [] r f) = φ r * valI f t
 | [] => by simp [putP, Wt_nil, valI]
 | j :: js => by
  have e : putP [] r (j :: js) = ⟨r, j.f0, j.f1⟩ :: putP [] r js := rfl; rw [e, Wt_cons, Wt_put φ t r js, valI]
  split
  ·rw [Int.mul_add]
  ·simp
def Sm {α : Type} (f : α → Int) : List α → Int
 | [] => 0
 | x :: xs => f x + Sm f xs
theorem Sm_congr {α : Type} {f g : α → Int} : ∀ {l : List α}, (∀ x ∈ l, f x = g x) → Sm f l = Sm g l
 | [], _ => rfl
 | x :: xs, h => by rw [Sm, Sm, h x List.mem_cons_self, Sm_congr fun y hy => h y (List.mem_cons_of_mem _ hy)]
theorem Sm_append {α : Type} (f : α → Int) : ∀ a b : List α, Sm f (a ++ b) = Sm f a + Sm f b
 | [], b => by simp [Sm]
 | x :: xs, b => by rw [List.cons_append, Sm, Sm, Sm_append f xs b]; omega
theorem Sm_map {α β : Type} (f : β → Int) (g : α → β) : ∀ l : List α, Sm f (l.map g) = Sm (fun x => f (g x)) l
 | [] => rfl
 | x :: xs => by rw [List.map_cons, Sm, Sm, Sm_map f g xs]
theorem Sm_mul {α : Type} (c : Int) (f : α → Int) : ∀ l : List α, Sm (fun x => c * f x) l = c * Sm f l
 | [] => by simp [Sm]
 | x :: xs => by rw [Sm, Sm, Sm_mul c f xs, Int.mul_add]
theorem Wt_flatMap {α : Type} (φ : List Vl → Int) (t : Int) (g : α → List EdP) : ∀ l : List α, Wt φ t (l.flatMap g) = Sm (fun x => Wt φ t (g x)) l
 | [] => rfl
 | x :: xs => by rw [List.flatMap_cons, Wt_append, Wt_flatMap φ t g xs, Sm]
theorem Wt_flatG (φ : List Vl → Int) (t : Int) (G : List Gr) : Wt φ t (flatG G) = Sm (fun x => φ x.1 * valI x.2 t) G := by
 unfold flatG; rw [Wt_flatMap]; exact Sm_congr fun x _ => Wt_put φ t x.1 x.2
theorem Wt_runs (φ : List Vl → Int) (t : Int) (l : List EdP) : Sm (fun x => φ x.1 * valI x.2 t) (runsP l) = Wt φ t l := by rw [← Wt_flatG, runs_flat]
theorem Wt_congr {φ ψ : List Vl → Int} (t : Int) : ∀ {l : List EdP}, (∀ e ∈ l, φ e.f0 = ψ e.f0) → Wt φ t l = Wt ψ t l
 | [], _ => rfl
 | e :: es, h => by rw [Wt_cons, Wt_cons, h e List.mem_cons_self, Wt_congr t fun y hy => h y (List.mem_cons_of_mem _ hy)]
theorem Wt_add (φ ψ : List Vl → Int) (t : Int) : ∀ l : List EdP, Wt (fun q => φ q + ψ q) t l = Wt φ t l + Wt ψ t l
 | [] => rfl
 | e :: es => by
  rw [Wt_cons, Wt_cons, Wt_cons, Wt_add φ ψ t es]
  split
  ·rw [Int.add_mul]; omega
  ·omega
def Bf (ψ : List Vl → Int) (t : Int) (l r : List EdP) : Int := Wt (fun p => Wt (fun q => ψ (p ++ q)) t r) t l
theorem Bf_runs (ψ : List Vl → Int) (t : Int) (l r : List EdP) : Sm (fun x : Gr × Gr => ψ (x.1.1 ++ x.2.1) * (valI x.1.2 t * valI x.2.2 t)) (pairsL (runsP l) (runsP r)) = Bf ψ t l r := by
 unfold Bf; rw [← Wt_runs]; generalize runsP l = G
 induction G with
 | nil => rfl
 | cons x xs ih =>
  have e : pairsL (x :: xs) (runsP r) = ((runsP r).map fun y => (x, y)) ++ pairsL xs (runsP r) := by simp [pairsL]
  rw [e, Sm_append, ih, Sm_map, Sm, ← Wt_runs]
  congr 1
  rw [Int.mul_comm, ← Sm_mul]; exact Sm_congr fun y _ => by
   show ψ (x.1 ++ y.1) * (valI x.2 t * valI y.2 t) = valI x.2 t * (ψ (x.1 ++ y.1) * valI y.2 t)
   rw [Int.mul_left_comm]
def kJ_ (hh : List Vl → Bool × Int) (r : List Vl) : Int := if (hh r).2 = 0 ∧ (hh r).1 = false then 0 else 1
theorem rowMay_app {a b : List Vl} (ha : rowMay a = true) (hb : rowMay b = true) (h : a.length + b.length ≤ 8) : rowMay (a ++ b) = true := by
 unfold rowMay; rw [Bool.and_eq_true, List.all_append, Bool.and_eq_true, List.all_eq_true, List.all_eq_true]; exact ⟨decide_eq_true (by rw [List.length_append]; omega), rowMay_all ha, rowMay_all hb⟩
theorem joinV_ok {a b c : List Vl} (h : joinV a b = (c, 0)) : rowMay a = true ∧ rowMay b = true ∧ a.length + b.length ≤ 8 ∧ c = a ++ b := by
 unfold joinV at h
 by_cases h1 : (rowMay a && rowMay b) = true
 ·rw [if_pos h1] at h
  rw [Bool.and_eq_true] at h1
  by_cases h2 : 8 < a.length + b.length
  ·rw [if_pos h2] at h; cases h
  ·rw [if_neg h2] at h
   exact ⟨h1.1, h1.2, by omega, (congrArg Prod.fst h).symm⟩
 ·rw [if_neg h1] at h; cases h
theorem edgesJ_val (hh : List Vl → Bool × Int) (x y : Gr) {es : List EdP} (h : edgesJ hh x y = (es, 0)) (φ : List Vl → Int) (t : Int) :
  Wt φ t es = (kJ_ hh (x.1 ++ y.1) * φ (x.1 ++ y.1)) * (valI x.2 t * valI y.2 t) ∧ okN es := by
 have ok0 : okN [] := ⟨fun e he => (by cases he), fun e he => (by cases he)⟩
 unfold edgesJ at h; obtain ⟨⟨g, eg⟩, hg⟩ : ∃ z, bothV (· * ·) x.2 y.2 = z := ⟨_, rfl⟩
 rw [hg] at h; simp only at h
 by_cases e1 : eg = 0
 ·subst e1
  rw [if_neg (by simp)] at h; obtain ⟨_, _, hm, hv⟩ := bothV_val (op := (· * ·)) rfl hg; have hv : valI g t = valI x.2 t * valI y.2 t := hv t
  by_cases e2 : g = []
  ·rw [if_pos e2] at h
   cases h; rw [← hv, e2]; exact ⟨by simp [Wt_nil, valI], ok0⟩
  ·rw [if_neg e2] at h
   obtain ⟨⟨c, ec⟩, hc⟩ : ∃ z, joinV x.1 y.1 = z := ⟨_, rfl⟩
   rw [hc] at h; simp only at h
   by_cases e3 : ec = 0
   ·subst e3
    rw [if_neg (by simp)] at h; obtain ⟨ra, rb, rl, rfl⟩ := joinV_ok hc
    by_cases e4 : (hh (x.1 ++ y.1)).2 = 0
    ·rw [if_neg (by simpa using e4)] at h
     by_cases e5 : (hh (x.1 ++ y.1)).1 = true
     ·rw [if_pos e5] at h
      cases h; have hb : buildP (x.1 ++ y.1) g = putP [] (x.1 ++ y.1) g := by unfold buildP; rw [if_pos (by rw [rowMay_app ra rb rl, hm]; rfl)]
      rw [hb, Wt_put, hv]; refine ⟨by unfold kJ_; rw [if_neg (by rw [e5]; simp), Int.one_mul], ⟨fun e he => ?_, fun e he => ?_⟩⟩ <;>
       (unfold putP at he; rw [List.nil_append] at he; obtain ⟨j, hj, rfl⟩ := List.mem_map.1 he; obtain ⟨_, hp, _⟩ := mayJ_parts hm; obtain ⟨q1, q2, q3, q4⟩ := hp j hj)
      ·exact argE_ok (rowMay_app ra rb rl) q4
      ·unfold timeB
       rw [decide_eq_false (show ¬ j.f0 < -1 by omega), decide_eq_false (show ¬ j.f0 > 1125899906842624 by omega)]; rfl
     ·rw [if_neg e5] at h
      cases h; exact ⟨by unfold kJ_; rw [if_pos ⟨e4, by simpa using e5⟩, Int.zero_mul, Int.zero_mul]; rfl, ok0⟩
    ·rw [if_pos e4] at h
     exact absurd (congrArg Prod.snd h) e4
   ·rw [if_pos e3] at h
    exact absurd (congrArg Prod.snd h) e3
 ·rw [if_pos e1] at h
  exact absurd (congrArg Prod.snd h) e1
theorem accR_ok (ed : Gr → Gr → List EdP × Int) : ∀ (its : List (Gr × Gr)) (out : List EdP), (accR ed out its).2 = 0 → (∀ x ∈ its, (ed x.1 x.2).2 = 0) ∧ (accR ed out its).1 = out ++ its.flatMap fun x => (ed x.1 x.2).1
 | [], out, _ => ⟨fun x hx => (by cases hx), by simp [accR]⟩
 | x :: xs, out, h => by
  rw [accR] at h ⊢
  by_cases c : (ed x.1 x.2).2 = 0
  ·rw [if_neg (by simpa using c)] at h ⊢
   obtain ⟨h1, h2⟩ := accR_ok ed xs _ h; refine ⟨fun y hy => ?_, by rw [h2, List.flatMap_cons, List.append_assoc]⟩
   rcases List.mem_cons.1 hy with rfl | hy
   ·exact c
   ·exact h1 y hy
  ·rw [if_pos (by simpa using c)] at h
   exact absurd h c
theorem edgesJ_late (hh : List Vl → Bool × Int) (x y : Gr) (e : EdP) (h : e ∈ (edgesJ hh x y).1) : e.f1 < 1125899906842624 := by
 have hb : ∀ (r : List Vl) (f : List Jp), e ∈ buildP r f → e.f1 < 1125899906842624 := by
  intro r f h; unfold buildP at h
  split at h
  ·rename_i c
   rw [Bool.and_eq_true] at c; unfold putP at h; rw [List.nil_append] at h; obtain ⟨j, hj, rfl⟩ := List.mem_map.1 h; exact ((mayJ_parts c.2).2.1 j hj).2.1
  ·cases h
 unfold edgesJ at h
 repeat' split at h
 all_goals first | exact hb _ _ h | cases h
theorem pairs_val {hh : List Vl → Bool × Int} {ef : Int} {l r a : List EdP} (h : pairsV hh ef l r = (a, 0)) :
  MayP l ∧ MayP r ∧ MayP a ∧ ef = 0 ∧ (∀ x ∈ pairsL (runsP l) (runsP r), (edgesJ hh x.1 x.2).2 = 0) ∧ ∀ φ t, Wt φ t a = Bf (fun q => kJ_ hh q * φ q) t l r := by
 unfold pairsV at h
 by_cases c : (mayE l && mayE r) = true
 ·rw [if_pos c] at h
  rw [Bool.and_eq_true, mayE_iff, mayE_iff] at c
  by_cases c2 : ef = 0
  ·rw [if_neg (by simpa using c2)] at h
   by_cases c3 : (accR (edgesJ hh) [] (pairsL (runsP l) (runsP r))).2 = 0
   ·rw [if_neg (by simpa using c3)] at h
    obtain ⟨h1, h2⟩ := accR_ok _ _ _ c3; rw [h2, List.nil_append] at h; have ok : okN ((pairsL (runsP l) (runsP r)).flatMap fun x => (edgesJ hh x.1 x.2).1) := by
     refine ⟨fun e he => ?_, fun e he => ?_⟩ <;> (obtain ⟨x, hx, hx2⟩ := List.mem_flatMap.1 he; have h3 := (edgesJ_val hh x.1 x.2 (Prod.ext rfl (h1 x hx)) (fun _ => 0) 0).2)
     ·exact h3.1 e hx2
     ·exact h3.2 e hx2
    obtain ⟨_, hf, e⟩ := okN_of_norm (l := (pairsL (runsP l) (runsP r)).flatMap fun x => (edgesJ hh x.1 x.2).1) (by rw [h]); rw [h] at e; obtain rfl : a = flat ((pairsL (runsP l) (runsP r)).flatMap fun x => (edgesJ hh x.1 x.2).1) := congrArg Prod.fst e; refine ⟨c.1, c.2, flat_may ok hf, c2, h1, fun φ t => ?_⟩; rw [Wt_J (b := (pairsL (runsP l) (runsP r)).flatMap fun x => (edgesJ hh x.1 x.2).1) φ t (fun k => ?_), Wt_flatMap, ← Bf_runs]
    ·exact Sm_congr fun x hx => (edgesJ_val hh x.1 x.2 (Prod.ext rfl (h1 x hx)) φ t).1
    ·obtain ⟨q, s⟩ := k
     rw [flat_J]
     split
     ·rfl
     ·rename_i c4
      refine (J_none _ _ fun z hz e => c4 ?_).symm; obtain ⟨y, hy, rfl⟩ := List.mem_map.1 hz; obtain ⟨x, hx, hy2⟩ := List.mem_flatMap.1 hy; have e2 : y.f1 = s := (Prod.mk.inj e).2; rw [← e2]; exact edgesJ_late hh x.1 x.2 y hy2
   ·rw [if_pos (by simpa using c3)] at h
    exact absurd (congrArg Prod.snd h) c3
  ·rw [if_pos (by simpa using c2)] at h
   exact absurd (congrArg Prod.snd h) c2
 ·rw [if_neg c] at h; cases h
theorem J_Wt (r : List Vl) (t : Int) : ∀ l : List EdP, JE l (r, t) = Wt (fun q => if q = r then 1 else 0) t l - Wt (fun q => if q = r then 1 else 0) (t - 1) l
 | [] => rfl
 | e :: es => by
  show J (pE e :: es.map pE) (r, t) = _
  rw [J_cons, show J (es.map pE) (r, t) = JE es (r, t) from rfl, J_Wt r t es, Wt_cons, Wt_cons]
  show (if (e.f0, e.f1) = (r, t) then e.f2 else 0) + _ = _
  have h9 : (t ≤ t - 1) = False := eq_false (by omega)
  by_cases h : e.f0 = r <;> by_cases h2 : e.f1 = t <;> by_cases h4 : e.f1 ≤ t <;> by_cases h5 : e.f1 ≤ t - 1 <;> first | (exfalso; omega) | (simp only [h, h2, h4, h5, h9, Prod.mk.injEq, and_true, true_and, and_false, false_and, if_true, if_false, Int.le_refl]; first | omega | (simp; try omega))
theorem join_add {a b s p q w : List EdP} (hp : MayP p) (hq : MayP q) (hw : MayP w) (h : ∀ φ t, Wt φ t w = Wt φ t p + Wt φ t q) : addV p q = (w, 0) := by
 refine add_of hp hq hw fun r t _ => ?_
 rw [JE_append, J_Wt, J_Wt, J_Wt, h, h]; omega
theorem join_sumL {hh : List Vl → Bool × Int} {ef : Int} {a b s r p q w : List EdP} (hs : addV a b = (s, 0)) (hp : pairsV hh ef a r = (p, 0)) (hq : pairsV hh ef b r = (q, 0)) (hw : pairsV hh ef s r = (w, 0)) : addV p q = (w, 0) := by
 obtain ⟨_, _, _, hJ, _⟩ := add_parts hs; obtain ⟨_, _, mp, _, _, vp⟩ := pairs_val hp; obtain ⟨_, _, mq, _, _, vq⟩ := pairs_val hq; obtain ⟨_, _, mw, _, _, vw⟩ := pairs_val hw; refine join_add (a := a) (b := b) (s := s) mp mq mw fun φ t => ?_
 rw [vp, vq, vw]; unfold Bf; rw [Wt_J _ t hJ, Wt_append]
theorem join_sumR {hh : List Vl → Bool × Int} {ef : Int} {a b s r p q w : List EdP} (hs : addV a b = (s, 0)) (hp : pairsV hh ef r a = (p, 0)) (hq : pairsV hh ef r b = (q, 0)) (hw : pairsV hh ef r s = (w, 0)) : addV p q = (w, 0) := by
 obtain ⟨_, _, _, hJ, _⟩ := add_parts hs; obtain ⟨_, _, mp, _, _, vp⟩ := pairs_val hp; obtain ⟨_, _, mq, _, _, vq⟩ := pairs_val hq; obtain ⟨_, _, mw, _, _, vw⟩ := pairs_val hw; refine join_add (a := a) (b := b) (s := s) mp mq mw fun φ t => ?_
 rw [vp, vq, vw]; unfold Bf; rw [← Wt_add]; exact Wt_congr t fun e _ => by rw [Wt_J _ t hJ, Wt_append]
theorem pairsV_row (hh : List Vl → Bool × Int) (ef : Int) (l r : List EdP) : (∀ e ∈ (pairsV hh ef l r).1, e.f0.length ≤ 8) ∧ (pairsV hh ef l r).1.length ≤ 4096 ∧ ((pairsV hh ef l r).2 ≠ 0 → (pairsV hh ef l r).1 = []) := by
 obtain ⟨⟨a, e⟩, h⟩ : ∃ z, pairsV hh ef l r = z := ⟨_, rfl⟩
 rw [h]
 by_cases c : e = 0
 ·subst c
  obtain ⟨_, _, m, _⟩ := pairs_val h; exact ⟨fun e he => rowMay_len (m.each e he).1, m.len, fun h => absurd rfl h⟩
 ·suffices a = [] by subst this; exact ⟨fun e he => (by cases he), Nat.zero_le _, fun _ => rfl⟩
  unfold pairsV at h
  split at h
  ·split at h
   ·exact (congrArg Prod.fst h).symm
   ·split at h
    ·exact (congrArg Prod.fst h).symm
    ·rcases normV_cases (accR (edgesJ hh) [] (pairsL (runsP l) (runsP r))).1 with ⟨_, _, h2⟩ | ⟨k, _, h2⟩
     ·rw [h2] at h; exact absurd (congrArg Prod.snd h).symm c
     ·rw [h2] at h; exact (congrArg Prod.fst h).symm
  ·exact (congrArg Prod.fst h).symm
end Go.Proofs.YtmkgecapkeojaaaGreat.Eg
end
section
namespace Go.Proofs.YtmkgecapkeojaaaGreat.Eg
open Go.Proofs.YtmkgecapkeojaaaGreat Go.Proofs.YtmkgecapkeojaaaGreat.PDa Go.Proofs.YtmkgecapkeojaaaGreat.EvP
open Go.RowKit Go.Proofs.YtmkgecapkeojaaaGreatW.PrintWords Go.Proofs.YtmkgecapkeojaaaGreatW.PrintLast Go.Proofs.YtmkgecapkeojaaaGreatW.PrintMore
open Go.Proofs.YtmkgecapkeojaaaGreat.Stp Go.Proofs.YtmkgecapkeojaaaGreat.Rw
theorem nilT : (⟨#[]⟩ : ByteArray).toList = [] := (toList_nil_iff_emptyBytes _).2 rfl
theorem rowMay1 (a : Int) : rowMay [⟨1, a, ⟨#[]⟩⟩] = true := by simp [rowMay, thOf, nilT]
theorem thO_num (a : Int) : thO (Th.num a) = some (Th.num a) := by
 simp [thO, thVal3, thOf]
theorem pairs_any (A0 A1 A2 : Option Addr) (c0 c1 c2 : Nat) (l r : List EdP) (x : List Op8) (w : World) (hr0 : Kd.C kE w A0 l.length l) (hr1 : Kd.C kE w A1 r.length r) (hr2 : Kd.C kO w A2 x.length x) (hc2 : x.length ≤ c2) (hl : PDd.okEs l = true) (hr : PDd.okEs r = true) (hx : PDd.okXs x = true) :
  Calls Tryz.prog 29 #[.slice A0 l.length c0, .slice A1 r.length c1, .slice A2 x.length c2] w (Ans (pairsV (EvP.holdsV x) (EvP.formV x) l r) w) := by
 refine (Pairs_calls (EvP.holdsV x) (EvP.formV x) A0 A1 A2 c0 c1 c2 l r x w hr0 (PDd.okEs_row hl) hr1 (PDd.okEs_row hr) hr2 hc2 (fun _ _ a b ha hb hj => ?_) (EvP.form_E x).get).mono ?_
 ·obtain ⟨⟨c, ec⟩, hc⟩ : ∃ z, joinV a.1 b.1 = z := ⟨_, rfl⟩
  rw [hc] at hj ⊢; simp only at hj; subst hj; obtain ⟨_, _, _, rfl⟩ := joinV_ok hc; obtain ⟨⟨e, he, e1⟩, _⟩ := runs_mem l a ha; obtain ⟨⟨f, hf, f1⟩, _⟩ := runs_mem r b hb; refine (EvP.holds_E x _ ⟨(PDd.okX hl hx e he).x, fun v hv => ?_⟩).get
  rcases List.mem_append.1 hv with hv | hv
  ·exact (PDd.okX hl hx e he).row v (e1 ▸ hv)
  ·exact (PDd.okX hr hx f hf).row v (f1 ▸ hv)
 ·rintro e w' ⟨v, o, ho, rfl, hR, hb⟩
  obtain rfl := pairs_is ho; obtain ⟨A, c, rfl⟩ := Kd.R_slice hR; exact ⟨A, c, rfl, (Kd.R_reads' hR).2.2, (Kd.R_reads' hR).2.1, hb⟩
def v7 : Rw.Vl := ⟨1, 7, ⟨#[]⟩⟩
def a2 : EdP := ⟨[v1], 9, -1⟩
def b1 : EdP := ⟨[v7], 5, 1⟩
def b2 : EdP := ⟨[v7], 12, -1⟩
def jx1 : List Op8 := [⟨1, 1, ⟨#[]⟩⟩]
def jx2 : List Op8 := [⟨3, 0, ⟨#[]⟩⟩, ⟨3, 1, ⟨#[]⟩⟩, ⟨13, 0, ⟨#[]⟩⟩]
def p1 : EdP := ⟨[v1, v7], 5, 1⟩
def p2 : EdP := ⟨[v1, v7], 9, -1⟩
def jt1 : T := .l ⟨1, 1, ⟨#[]⟩⟩
def jt2 : T := .b ⟨13, 0, ⟨#[]⟩⟩ (.l ⟨3, 0, ⟨#[]⟩⟩) (.l ⟨3, 1, ⟨#[]⟩⟩)
theorem jt1_ok : jt1.ok := by
 refine ⟨?_, by decide⟩ ; simp [okW, noT, nilT, takes]
theorem jt2_ok : jt2.ok := by
 refine ⟨?_, by decide, ⟨?_, by decide⟩, ⟨?_, by decide⟩⟩ <;> simp [okW, noT, nilT, takes]
theorem jx1_form : formV jx1 = 0 := by
 have h := parse_fl jt1 jt1_ok [] []; rw [List.append_nil] at h; have e : jt1.fl = jx1 := rfl; unfold formV; rw [if_neg zq34, ← e, h]; rfl
theorem jx2_form : formV jx2 = 0 := by
 have h := parse_fl jt2 jt2_ok [] []; rw [List.append_nil] at h; have e : jt2.fl = jx2 := rfl; unfold formV; rw [if_neg zq34, ← e, h]; rfl
theorem may17 : rowMay [v1, v7] = true := by simp [rowMay, thOf, nilT, v1, v7]
theorem jx1_v : holdsV jx1 [v1, v7] = (true, 0) := by
 have e : jt1.fl = jx1 := rfl; have h : evalV jx1 [v1, v7] = (1, 1, ⟨#[]⟩, 0) := by
  rw [← e, evalV_T jt1 jt1_ok _ (by rw [e]; exact jx1_form) may17]
  rfl
 unfold holdsV; rw [h]
 rfl
theorem jx2_v : holdsV jx2 [v1, v7] = (false, 0) := by
 have e : jt2.fl = jx2 := rfl; have h : evalV jx2 [v1, v7] = (1, 0, ⟨#[]⟩, 0) := by
  rw [← e, evalV_T jt2 jt2_ok _ (by rw [e]; exact jx2_form) may17]; simp [T.ev, jt2, evL, evB, v1, v7, compareS, getTh, rd_T65, outV, thVal3, Except.map]; simp only [thO_num]
  rfl
 unfold holdsV; rw [h]
 rfl
theorem runs2 (r : List Rw.Vl) (a b c d : Int) : runsP [⟨r, a, b⟩, ⟨r, c, d⟩] = [(r, [⟨a, b⟩, ⟨c, d⟩])] := by simp [runsP, runAt, eqR_refl, jmpE]
theorem may2 (r : List Rw.Vl) (a b c d : Int) (hr : rowMay r = true) (hm : mayJ [⟨a, b⟩, ⟨c, d⟩] = true) : mayE [⟨r, a, b⟩, ⟨r, c, d⟩] = true := by
 unfold mayE eachP; rw [runs2]; simp only [eachR, lastB, hr, hm]
 rfl
theorem mul59 : bothV (· * ·) [⟨2, 1⟩, ⟨9, -1⟩] [⟨5, 1⟩, ⟨12, -1⟩] = ([⟨5, 1⟩, ⟨9, -1⟩], 0) := by rfl
theorem join17 : joinV [v1] [v7] = ([v1, v7], 0) := by
 unfold joinV; rw [show rowMay [v1] = true from rowMay1 1, show rowMay [v7] = true from rowMay1 7]
 rfl
theorem liveJ (hh : List Rw.Vl → Bool × Int) (ok : Bool) (h : hh [v1, v7] = (ok, 0)) : pairsV hh 0 [e1, a2] [b1, b2] = (if ok = true then [p1, p2] else [], 0) := by
 have m1 : mayE [e1, a2] = true := may2 [v1] 2 1 9 (-1) (rowMay1 1) rfl; have m2 : mayE [b1, b2] = true := may2 [v7] 5 1 12 (-1) (rowMay1 7) rfl; have m3 : mayE [p1, p2] = true := may2 [v1, v7] 5 1 9 (-1) may17 rfl; have ed : edgesJ hh ([v1], [⟨2, 1⟩, ⟨9, -1⟩]) ([v7], [⟨5, 1⟩, ⟨12, -1⟩]) = (if ok = true then [p1, p2] else [], 0) := by
  unfold edgesJ; simp only [mul59, join17, h]; rw [if_neg zq34, if_neg zq34, if_neg zq34, if_neg zq34]; cases ok
  ·rfl
  ·rw [if_pos rfl, if_pos rfl]
   unfold buildP; rw [may17]
   rfl
 unfold pairsV; rw [m1, m2, if_pos (by rfl), if_neg zq34, show runsP [e1, a2] = [([v1], [⟨2, 1⟩, ⟨9, -1⟩])] from runs2 _ _ _ _ _, show runsP [b1, b2] = [([v7], [⟨5, 1⟩, ⟨12, -1⟩])] from runs2 _ _ _ _ _]; have ac : accR (edgesJ hh) [] (pairsL [([v1], [⟨2, 1⟩, ⟨9, -1⟩])] [([v7], [⟨5, 1⟩, ⟨12, -1⟩])]) = (if ok = true then [p1, p2] else [], 0) := by
  simp only [pairsL, List.flatMap_cons, List.flatMap_nil, List.map_cons, List.map_nil, List.append_nil, accR, ed, List.nil_append]; rw [if_neg zq34]
 rw [ac, if_neg zq30]; cases ok
 ·rfl
 ·exact ((mayE_iff _).1 m3).norm
theorem factJ1 : pairsV (holdsV jx1) (formV jx1) [e1, a2] [b1, b2] = ([p1, p2], 0) := by rw [jx1_form]; exact liveJ _ true jx1_v
theorem factJ2 : pairsV (holdsV jx2) (formV jx2) [e1, a2] [b1, b2] = ([], 0) := by rw [jx2_form]; exact liveJ _ false jx2_v
theorem liveJ_calls (w : World) : Calls Tryz.prog 28 #[] w fun e w' => e = .returned (.bool true) ∧ Below w.heap.size w w' := by
 go_enter Tryz.func28, Tryz.ntmps28
 go_wp2_with (go_at_call 29; refine hold_intro ?_)
 refine ⟨?_⟩; obtain ⟨W1, hW1⟩ : ∃ W1, ((((((w.alloc (.cells #[.int .i64 1, .int .i64 1, .string ⟨#[]⟩] 65 (0, 0))).alloc (.cells #[.int .i64 1, .int .i64 1, .string ⟨#[]⟩] 65 (0, 0))).alloc (.cells #[.slice (some ⟨w.heap.size, 0, none⟩) 1 1, .int .i64 2, .int .i64 1, .slice (some ⟨w.heap.size + 1, 0, none⟩) 1 1, .int .i64 9, .int .i64 (-1)] 41 (0, 0))).alloc (.cells #[.int .i64 1, .int .i64 7, .string ⟨#[]⟩] 65 (0, 0))).alloc (.cells #[.int .i64 1, .int .i64 7, .string ⟨#[]⟩] 65 (0, 0))).alloc (.cells #[.slice (some ⟨w.heap.size + 1 + 1 + 1, 0, none⟩) 1 1, .int .i64 5, .int .i64 1, .slice (some ⟨w.heap.size + 1 + 1 + 1 + 1, 0, none⟩) 1 1, .int .i64 12, .int .i64 (-1)] 41 (0, 0))).alloc (.cells #[.int .i64 1, .int .i64 1, .string ⟨#[]⟩] 68 (0, 0)) = W1 := ⟨_, rfl⟩
 have hsW1 : W1.heap.size = w.heap.size + 7 := by rw [← hW1]; simp
 have hbW1 : Below w.heap.size w W1 := by rw [← hW1]; exact below_alloc (below_alloc (below_alloc (below_alloc (below_alloc (below_alloc (below_alloc (Below.refl _ w) _) _) _) _) _) _) _
 have k0 : W1.heap[w.heap.size]? = some (.cells #[.int .i64 1, .int .i64 1, .string ⟨#[]⟩] 65 (0, 0)) := by
  have h1 := blk_new (w) (.cells #[.int .i64 1, .int .i64 1, .string ⟨#[]⟩] 65 (0, 0)); rw [← hW1]; exact blk_alloc (blk_alloc (blk_alloc (blk_alloc (blk_alloc (blk_alloc (h1) _) _) _) _) _) _
 have k1 : W1.heap[w.heap.size + 1]? = some (.cells #[.int .i64 1, .int .i64 1, .string ⟨#[]⟩] 65 (0, 0)) := by
  have h1 := blk_new (w.alloc (.cells #[.int .i64 1, .int .i64 1, .string ⟨#[]⟩] 65 (0, 0))) (.cells #[.int .i64 1, .int .i64 1, .string ⟨#[]⟩] 65 (0, 0)); rw [World.size_alloc] at h1; rw [← hW1]; exact blk_alloc (blk_alloc (blk_alloc (blk_alloc (blk_alloc (h1) _) _) _) _) _
 have k2 : W1.heap[w.heap.size + 1 + 1]? = some (.cells #[.slice (some ⟨w.heap.size, 0, none⟩) 1 1, .int .i64 2, .int .i64 1, .slice (some ⟨w.heap.size + 1, 0, none⟩) 1 1, .int .i64 9, .int .i64 (-1)] 41 (0, 0)) := by
  have h1 := blk_new ((w.alloc (.cells #[.int .i64 1, .int .i64 1, .string ⟨#[]⟩] 65 (0, 0))).alloc (.cells #[.int .i64 1, .int .i64 1, .string ⟨#[]⟩] 65 (0, 0))) (.cells #[.slice (some ⟨w.heap.size, 0, none⟩) 1 1, .int .i64 2, .int .i64 1, .slice (some ⟨w.heap.size + 1, 0, none⟩) 1 1, .int .i64 9, .int .i64 (-1)] 41 (0, 0)); rw [World.size_alloc, World.size_alloc] at h1; rw [← hW1]; exact blk_alloc (blk_alloc (blk_alloc (blk_alloc (h1) _) _) _) _
 have k3 : W1.heap[w.heap.size + 1 + 1 + 1]? = some (.cells #[.int .i64 1, .int .i64 7, .string ⟨#[]⟩] 65 (0, 0)) := by
  have h1 := blk_new (((w.alloc (.cells #[.int .i64 1, .int .i64 1, .string ⟨#[]⟩] 65 (0, 0))).alloc (.cells #[.int .i64 1, .int .i64 1, .string ⟨#[]⟩] 65 (0, 0))).alloc (.cells #[.slice (some ⟨w.heap.size, 0, none⟩) 1 1, .int .i64 2, .int .i64 1, .slice (some ⟨w.heap.size + 1, 0, none⟩) 1 1, .int .i64 9, .int .i64 (-1)] 41 (0, 0))) (.cells #[.int .i64 1, .int .i64 7, .string ⟨#[]⟩] 65 (0, 0)); rw [World.size_alloc, World.size_alloc, World.size_alloc] at h1; rw [← hW1]; exact blk_alloc (blk_alloc (blk_alloc (h1) _) _) _
 have k4 : W1.heap[w.heap.size + 1 + 1 + 1 + 1]? = some (.cells #[.int .i64 1, .int .i64 7, .string ⟨#[]⟩] 65 (0, 0)) := by
  have h1 := blk_new ((((w.alloc (.cells #[.int .i64 1, .int .i64 1, .string ⟨#[]⟩] 65 (0, 0))).alloc (.cells #[.int .i64 1, .int .i64 1, .string ⟨#[]⟩] 65 (0, 0))).alloc (.cells #[.slice (some ⟨w.heap.size, 0, none⟩) 1 1, .int .i64 2, .int .i64 1, .slice (some ⟨w.heap.size + 1, 0, none⟩) 1 1, .int .i64 9, .int .i64 (-1)] 41 (0, 0))).alloc (.cells #[.int .i64 1, .int .i64 7, .string ⟨#[]⟩] 65 (0, 0))) (.cells #[.int .i64 1, .int .i64 7, .string ⟨#[]⟩] 65 (0, 0)); rw [World.size_alloc, World.size_alloc, World.size_alloc, World.size_alloc] at h1; rw [← hW1]; exact blk_alloc (blk_alloc (h1) _) _
 have k5 : W1.heap[w.heap.size + 1 + 1 + 1 + 1 + 1]? = some (.cells #[.slice (some ⟨w.heap.size + 1 + 1 + 1, 0, none⟩) 1 1, .int .i64 5, .int .i64 1, .slice (some ⟨w.heap.size + 1 + 1 + 1 + 1, 0, none⟩) 1 1, .int .i64 12, .int .i64 (-1)] 41 (0, 0)) := by
  have h1 := blk_new (((((w.alloc (.cells #[.int .i64 1, .int .i64 1, .string ⟨#[]⟩] 65 (0, 0))).alloc (.cells #[.int .i64 1, .int .i64 1, .string ⟨#[]⟩] 65 (0, 0))).alloc (.cells #[.slice (some ⟨w.heap.size, 0, none⟩) 1 1, .int .i64 2, .int .i64 1, .slice (some ⟨w.heap.size + 1, 0, none⟩) 1 1, .int .i64 9, .int .i64 (-1)] 41 (0, 0))).alloc (.cells #[.int .i64 1, .int .i64 7, .string ⟨#[]⟩] 65 (0, 0))).alloc (.cells #[.int .i64 1, .int .i64 7, .string ⟨#[]⟩] 65 (0, 0))) (.cells #[.slice (some ⟨w.heap.size + 1 + 1 + 1, 0, none⟩) 1 1, .int .i64 5, .int .i64 1, .slice (some ⟨w.heap.size + 1 + 1 + 1 + 1, 0, none⟩) 1 1, .int .i64 12, .int .i64 (-1)] 41 (0, 0)); rw [World.size_alloc, World.size_alloc, World.size_alloc, World.size_alloc, World.size_alloc] at h1; rw [← hW1]; exact blk_alloc (h1) _
 have k6 : W1.heap[w.heap.size + 1 + 1 + 1 + 1 + 1 + 1]? = some (.cells #[.int .i64 1, .int .i64 1, .string ⟨#[]⟩] 68 (0, 0)) := by
  have h1 := blk_new ((((((w.alloc (.cells #[.int .i64 1, .int .i64 1, .string ⟨#[]⟩] 65 (0, 0))).alloc (.cells #[.int .i64 1, .int .i64 1, .string ⟨#[]⟩] 65 (0, 0))).alloc (.cells #[.slice (some ⟨w.heap.size, 0, none⟩) 1 1, .int .i64 2, .int .i64 1, .slice (some ⟨w.heap.size + 1, 0, none⟩) 1 1, .int .i64 9, .int .i64 (-1)] 41 (0, 0))).alloc (.cells #[.int .i64 1, .int .i64 7, .string ⟨#[]⟩] 65 (0, 0))).alloc (.cells #[.int .i64 1, .int .i64 7, .string ⟨#[]⟩] 65 (0, 0))).alloc (.cells #[.slice (some ⟨w.heap.size + 1 + 1 + 1, 0, none⟩) 1 1, .int .i64 5, .int .i64 1, .slice (some ⟨w.heap.size + 1 + 1 + 1 + 1, 0, none⟩) 1 1, .int .i64 12, .int .i64 (-1)] 41 (0, 0))) (.cells #[.int .i64 1, .int .i64 1, .string ⟨#[]⟩] 68 (0, 0)); rw [World.size_alloc, World.size_alloc, World.size_alloc, World.size_alloc, World.size_alloc, World.size_alloc] at h1; rw [← hW1]; exact h1
 rw [hW1]; have r1 : ∀ (W2 : World) (b : Nat) (v : Rw.Vl), W2.heap[b]? = some (.cells #[.int .i64 v.f0, .int .i64 v.f1, .string v.f2] 65 (0, 0)) → Kd.C kV W2 (some ⟨b, 0, none⟩) 1 [v] := fun W2 b v h => by
  refine C_lit (d := kV) (ps := [] ++ [v]) (inner := [] ++ [.int .i64 v.f0, .int .i64 v.f1, .string v.f2]) rfl h rfl rfl zq34 (Reps.snoc (ps := []) (p := v) (Reps.none (kV.K W2) kV.sz) (k65_mk W2 v) rfl)
 have hC : Kd.C kE W1 (some ⟨w.heap.size + 1 + 1, 0, none⟩) 2 [e1, a2] :=
  C_lit (d := kE) (ps := [] ++ [e1] ++ [a2]) (inner := [] ++ [.slice (some ⟨w.heap.size, 0, none⟩) 1 1, .int .i64 2, .int .i64 1] ++ [.slice (some ⟨w.heap.size + 1, 0, none⟩) 1 1, .int .i64 9, .int .i64 (-1)]) rfl k2 rfl rfl zq34
   (((Reps.none (kE.K W1) kE.sz).snoc (p := e1) (k41_mk W1 e1 (Nat.le_refl 1) (r1 W1 _ v1 k0)) rfl).snoc (p := a2) (k41_mk W1 a2 (Nat.le_refl 1) (r1 W1 _ v1 k1)) rfl)
 have hD : Kd.C kE W1 (some ⟨w.heap.size + 1 + 1 + 1 + 1 + 1, 0, none⟩) 2 [b1, b2] :=
  C_lit (d := kE) (ps := [] ++ [b1] ++ [b2]) (inner := [] ++ [.slice (some ⟨w.heap.size + 1 + 1 + 1, 0, none⟩) 1 1, .int .i64 5, .int .i64 1] ++ [.slice (some ⟨w.heap.size + 1 + 1 + 1 + 1, 0, none⟩) 1 1, .int .i64 12, .int .i64 (-1)]) rfl k5 rfl rfl zq34
   (((Reps.none (kE.K W1) kE.sz).snoc (p := b1) (k41_mk W1 b1 (Nat.le_refl 1) (r1 W1 _ v7 k3)) rfl).snoc (p := b2) (k41_mk W1 b2 (Nat.le_refl 1) (r1 W1 _ v7 k4)) rfl)
 have hX : Kd.C kO W1 (some ⟨w.heap.size + 1 + 1 + 1 + 1 + 1 + 1, 0, none⟩) 1 jx1 :=
  C_lit (d := kO) (ps := [] ++ [(⟨1, 1, ⟨#[]⟩⟩ : Op8)]) (inner := [] ++ [.int .i64 1, .int .i64 1, .string ⟨#[]⟩]) rfl k6 rfl rfl zq34
   ((Reps.none (kO.K W1) kO.sz).snoc (p := ⟨1, 1, ⟨#[]⟩⟩) (k68_mk W1 _) rfl)
 have HC := Lib.hid hC; have HD := Lib.hid hD; have HB1 := Lib.hid hbW1; have FC := Lib.hid (pairs_any (some ⟨w.heap.size + 1 + 1, 0, none⟩) (some ⟨w.heap.size + 1 + 1 + 1 + 1 + 1, 0, none⟩) (some ⟨w.heap.size + 1 + 1 + 1 + 1 + 1 + 1, 0, none⟩) 2 2 1 [e1, a2] [b1, b2] jx1 W1 hC hD hX (Nat.le_refl 1) (by rfl) (by rfl) (by rfl)); rw [factJ1] at FC; clear hC hD hX r1 k0 k1 k2 k3 k4 k5 k6 hW1 hsW1 hbW1; refine FC.out.mono ?_; rintro e w2 ⟨Aa, ca, rfl, hRa, hca, hb2⟩; have HRA := Lib.hid hRa; have HB2 := Lib.hid (HB1.out.trans (hb2.mono HB1.out.size)); have HC2 := Lib.hid (Kd.C_below HC.out hb2); have HD2 := Lib.hid (Kd.C_below HD.out hb2); clear hRa hb2 hca HB1 HC HD FC
 go_wp2_with (go_at_call 29; refine hold_intro ?_)
 refine ⟨?_⟩; obtain ⟨W3, hW3⟩ : ∃ W3, w2.alloc (.cells #[.int .i64 3, .int .i64 0, .string ⟨#[]⟩, .int .i64 3, .int .i64 1, .string ⟨#[]⟩, .int .i64 13, .int .i64 0, .string ⟨#[]⟩] 68 (0, 0)) = W3 := ⟨_, rfl⟩
 have hsW3 : W3.heap.size = w2.heap.size + 1 := by rw [← hW3]; simp
 have hbW3 : Below w2.heap.size w2 W3 := by rw [← hW3]; exact below_alloc (Below.refl _ w2) _
 have k0 : W3.heap[w2.heap.size]? = some (.cells #[.int .i64 3, .int .i64 0, .string ⟨#[]⟩, .int .i64 3, .int .i64 1, .string ⟨#[]⟩, .int .i64 13, .int .i64 0, .string ⟨#[]⟩] 68 (0, 0)) := by
  have h1 := blk_new (w2) (.cells #[.int .i64 3, .int .i64 0, .string ⟨#[]⟩, .int .i64 3, .int .i64 1, .string ⟨#[]⟩, .int .i64 13, .int .i64 0, .string ⟨#[]⟩] 68 (0, 0)); rw [← hW3]; exact h1
 rw [hW3]; have hX : Kd.C kO W3 (some ⟨w2.heap.size, 0, none⟩) 3 jx2 :=
  C_lit (d := kO) (ps := [] ++ [(⟨3, 0, ⟨#[]⟩⟩ : Op8)] ++ [⟨3, 1, ⟨#[]⟩⟩] ++ [⟨13, 0, ⟨#[]⟩⟩]) (inner := [] ++ [.int .i64 3, .int .i64 0, .string ⟨#[]⟩] ++ [.int .i64 3, .int .i64 1, .string ⟨#[]⟩] ++ [.int .i64 13, .int .i64 0, .string ⟨#[]⟩]) rfl k0 rfl rfl zq34
   ((((Reps.none (kO.K W3) kO.sz).snoc (p := ⟨3, 0, ⟨#[]⟩⟩) (k68_mk W3 _) rfl).snoc (p := ⟨3, 1, ⟨#[]⟩⟩) (k68_mk W3 _) rfl).snoc (p := ⟨13, 0, ⟨#[]⟩⟩) (k68_mk W3 _) rfl)
 have HB3 := Lib.hid hbW3; have FD := Lib.hid (pairs_any (some ⟨w.heap.size + 1 + 1, 0, none⟩) (some ⟨w.heap.size + 1 + 1 + 1 + 1 + 1, 0, none⟩) (some ⟨w2.heap.size, 0, none⟩) 2 2 3 [e1, a2] [b1, b2] jx2 W3 (Kd.C_below HC2.out hbW3) (Kd.C_below HD2.out hbW3) hX (Nat.le_refl 3) (by rfl) (by rfl) (by rfl)); rw [factJ2] at FD; clear hX k0 hW3 hsW3 hbW3 HC2 HD2; refine FD.out.mono ?_; rintro e w4 ⟨Ab, cb, rfl, hRb, hcb, hb4⟩; have HB4 := Lib.hid ((HB2.out.trans (HB3.out.mono HB2.out.size)).trans (hb4.mono (Nat.le_trans HB2.out.size HB3.out.size))); have hra := Kd.C_below (Kd.C_below HRA.out HB3.out) hb4; obtain ⟨ad, Ay, cy, ea, y0, y1, y2, y3, y4⟩ := at_T41 hra (0 : Int) zq34 zq34; obtain ⟨ad2, Az, cz, eb, z0, z1, z2, z3, z4⟩ := at_T41 hra (1 : Int) zq34 zq34; cases ea; cases eb; have Y0 : w4.cell? ad = some (.slice Ay 2 cy) := by simpa [Addr.add, rd_T41, p1] using y0
 have Y1 : w4.cell? ⟨ad.block, ad.off + 1, none⟩ = some (.int .i64 5) := by simpa [Addr.add, rd_T41, p1] using y1
 have Z1 : w4.cell? ⟨ad.block, ad.off + 3 + 1, none⟩ = some (.int .i64 9) := by simpa [Addr.add, rd_T41, p2] using z1
 clear y0 y1 y2 y3 y4 z0 z1 z2 z3 z4 hra HRA HB2 HB3 hb4 hRb hcb FD; have e0 : ad.add 0 = ad := add0 ad; go_wp2; go_ret; exact ⟨rfl, HB4.out⟩
theorem r64b {z : Int} (h : (Lit.int .i64 z).wf = true) : PDd.r64 z = true := by
 have := R64.of_wf h; unfold PDd.r64; rw [Bool.and_eq_true]; exact ⟨decide_eq_true this.1, decide_eq_true this.2⟩
abbrev wfV (v : Rw.Vl) : Prop := (Lit.int .i64 v.f0).wf = true ∧ (Lit.int .i64 v.f1).wf = true ∧ v.f2.size ≤ 140737488351232
abbrev wfE (e : EdP) : Prop := ((∀ v ∈ e.f0, wfV v) ∧ e.f0.length * Tryz.prog.bytesOf 65 ≤ 140737488351232) ∧ (Lit.int .i64 e.f1).wf = true ∧ (Lit.int .i64 e.f2).wf = true
abbrev wfEs (l : List EdP) : Prop := (∀ e ∈ l, wfE e) ∧ l.length * Tryz.prog.bytesOf 41 ≤ 140737488351232
abbrev wfO (x : Op8) : Prop := (Lit.int .i64 x.f0).wf = true ∧ (Lit.int .i64 x.f1).wf = true ∧ x.f2.size ≤ 140737488351232
abbrev wfX (l : List Op8) : Prop := (∀ x ∈ l, wfO x) ∧ l.length * Tryz.prog.bytesOf 68 ≤ 140737488351232
theorem bytesV : Tryz.prog.bytesOf 65 = 32 := by kernel_rfl
theorem okEs_wf {l : List EdP} (h : wfEs l) : PDd.okEs l = true := by
 unfold PDd.okEs; refine List.all_eq_true.2 fun e he => ?_
 obtain ⟨⟨h1, h2⟩, _⟩ := h.1 e he; rw [bytesV] at h2; rw [Bool.and_eq_true]; exact ⟨decide_eq_true zq4, List.all_eq_true.2 fun v hv => r64b (h1 v hv).2.1⟩
theorem okXs_wf {l : List Op8} (h : wfX l) : PDd.okXs l = true := List.all_eq_true.2 fun x hx => r64b (h.1 x hx).2.1
end Go.Proofs.YtmkgecapkeojaaaGreat.Eg
end
section
namespace Go.Proofs.YtmkgecapkeojaaaGreat.Eg
open Go.Proofs.YtmkgecapkeojaaaGreat Go.Proofs.YtmkgecapkeojaaaGreat.PDa
open Go.RowKit Go.Proofs.YtmkgecapkeojaaaGreatW.PrintWords Go.Proofs.YtmkgecapkeojaaaGreatW.PrintLast Go.Proofs.YtmkgecapkeojaaaGreatW.PrintMore
open Go.Proofs.YtmkgecapkeojaaaGreat.Stp Go.Proofs.YtmkgecapkeojaaaGreat.Rw
theorem joinSums_calls (A0 A1 A2 A3 : Option Addr) (c0 c1 c2 c3 : Nat) (a b r : List EdP) (x : List Op8) (w : World)
  (hr0 : Kd.C kE w A0 a.length a) (hr1 : Kd.C kE w A1 b.length b) (hr2 : Kd.C kE w A2 r.length r) (hr3 : Kd.C kO w A3 x.length x) (hc3 : x.length ≤ c3)
  (ha : PDd.okEs a = true) (hb : PDd.okEs b = true) (hr : PDd.okEs r = true) (hx : PDd.okXs x = true) :
  Calls Tryz.prog 11 #[.slice A0 a.length c0, .slice A1 b.length c1, .slice A2 r.length c2, .slice A3 x.length c3] w fun e w' => e = .returned (.bool true) ∧ Below w.heap.size w w' := by
 have LV := Lib.hid (fun w1 => liveJ_calls w1); have PP := Lib.hid (fun (A B : Option Addr) (c d : Nat) (l1 l2 : List EdP) (w1 : World) (h : Below w.heap.size w w1) (hC : Kd.C kE w1 A l1.length l1) (hD : Kd.C kE w1 B l2.length l2) (h1 : PDd.okEs l1 = true) (h2 : PDd.okEs l2 = true) => pairs_any A B A3 c d c3 l1 l2 x w1 hC hD (Kd.C_below hr3 h) hc3 h1 h2 hx); have HCA := Lib.hid (fun (w1 : World) (h : Below w.heap.size w w1) => Kd.C_below hr0 h); have HCB := Lib.hid (fun (w1 : World) (h : Below w.heap.size w w1) => Kd.C_below hr1 h); have HCR := Lib.hid (fun (w1 : World) (h : Below w.heap.size w w1) => Kd.C_below hr2 h); have PA := Lib.hid (fun (w1 : World) (h : Below w.heap.size w w1) => PP.out A0 A2 c0 c2 a r w1 h (HCA.out w1 h) (HCR.out w1 h) ha hr); have PB := Lib.hid (fun (w1 : World) (h : Below w.heap.size w w1) => PP.out A1 A2 c1 c2 b r w1 h (HCB.out w1 h) (HCR.out w1 h) hb hr); have QA := Lib.hid (fun (w1 : World) (h : Below w.heap.size w w1) => PP.out A2 A0 c2 c0 r a w1 h (HCR.out w1 h) (HCA.out w1 h) hr ha); have QB := Lib.hid (fun (w1 : World) (h : Below w.heap.size w w1) => PP.out A2 A1 c2 c1 r b w1 h (HCR.out w1 h) (HCB.out w1 h) hr hb); have AD := Lib.hid (add_any A0 A1 c0 c1 a b w hr0 hr1 (PDd.okEs_row ha) (PDd.okEs_row hb)); obtain ⟨z, hz⟩ : ∃ z, addV a b = z := ⟨_, rfl⟩
 have hs0 := addV_row a b; rw [hz] at AD hs0; obtain ⟨s, es⟩ := z; have hoks : PDd.okEs s = true := okEs_sub (okEs_add ha hb) hs0.1; have PS := Lib.hid (fun (A : Option Addr) (c : Nat) (w1 : World) (h : Below w.heap.size w w1) (hC : Kd.C kE w1 A s.length s) => PP.out A A2 c c2 s r w1 h hC (HCR.out w1 h) hoks hr); have QS := Lib.hid (fun (A : Option Addr) (c : Nat) (w1 : World) (h : Below w.heap.size w w1) (hC : Kd.C kE w1 A s.length s) => PP.out A2 A c2 c r s w1 h (HCR.out w1 h) hC hr hoks); obtain ⟨hh, hhh⟩ : ∃ f, EvP.holdsV x = f := ⟨_, rfl⟩
 obtain ⟨ef, hef⟩ : ∃ f, EvP.formV x = f := ⟨_, rfl⟩
 rw [hhh, hef] at PA PB PS QA QB QS; obtain ⟨ra, hra⟩ : ∃ z, pairsV hh ef a r = z := ⟨_, rfl⟩
 obtain ⟨rb, hrb⟩ : ∃ z, pairsV hh ef b r = z := ⟨_, rfl⟩
 obtain ⟨rs, hrs⟩ : ∃ z, pairsV hh ef s r = z := ⟨_, rfl⟩
 obtain ⟨qa, hqa⟩ : ∃ z, pairsV hh ef r a = z := ⟨_, rfl⟩
 obtain ⟨qb, hqb⟩ : ∃ z, pairsV hh ef r b = z := ⟨_, rfl⟩
 obtain ⟨qs, hqs⟩ : ∃ z, pairsV hh ef r s = z := ⟨_, rfl⟩
 have sa := pairsV_row hh ef a r; have sb := pairsV_row hh ef b r; have ss := pairsV_row hh ef s r; have ta := pairsV_row hh ef r a; have tb := pairsV_row hh ef r b; have ts := pairsV_row hh ef r s; rw [hra] at PA sa; rw [hrb] at PB sb; rw [hrs] at PS ss; rw [hqa] at QA ta; rw [hqb] at QB tb; rw [hqs] at QS ts; obtain ⟨fa, e1⟩ := ra; obtain ⟨fb, e2⟩ := rb; obtain ⟨fs, e3⟩ := rs; obtain ⟨pa, e4⟩ := qa; obtain ⟨pb, e5⟩ := qb; obtain ⟨ps, e6⟩ := qs; have F1 := Lib.hid (show (∀ e ∈ fa, e.f0.length ≤ 4398046511104) ∧ (∀ e ∈ fb, e.f0.length ≤ 4398046511104) ∧ (∀ e ∈ fs, e.f0.length ≤ 4398046511104) ∧ fs.length ≤ 1000000000 from ⟨fun e he => by have := sa.1 e he; omega, fun e he => by have := sb.1 e he; omega, fun e he => by have := ss.1 e he; omega, by have := ss.2.1; simp only at this; omega⟩); have F2 := Lib.hid (show (∀ e ∈ pa, e.f0.length ≤ 4398046511104) ∧ (∀ e ∈ pb, e.f0.length ≤ 4398046511104) ∧ (∀ e ∈ ps, e.f0.length ≤ 4398046511104) ∧ ps.length ≤ 1000000000 from ⟨fun e he => by have := ta.1 e he; omega, fun e he => by have := tb.1 e he; omega, fun e he => by have := ts.1 e he; omega, by have := ts.2.1; simp only at this; omega⟩); have X1 := Lib.hid (fun (h0 : es = 0) (h1 : e1 = 0) (h2 : e2 = 0) (h3 : e3 = 0) => (show addV fa fb = (fs, 0) by
  subst h0 h1 h2 h3; exact join_sumL hz hra hrb hrs))
 have X2 := Lib.hid (fun (h0 : es = 0) (h1 : e4 = 0) (h2 : e5 = 0) (h3 : e6 = 0) => (show addV pa pb = (ps, 0) by
  subst h0 h1 h2 h3; exact join_sumR hz hqa hqb hqs))
 clear hr0 hr1 hr2 hr3 hc3 ha hb hr hx hs0 hz hra hrb hrs hqa hqb hqs sa sb ss ta tb ts hoks PP HCA HCB HCR hhh hef; go_enter Tryz.func11, Tryz.ntmps11
 go_wp2_with fail
 refine AD.out.mono ?_; rintro e w1 ⟨As, cs, rfl, hCs, hcs, hb1⟩; have HB1 := Lib.hid hb1; have HS := Lib.hid (fun (w2 : World) (h : Below w1.heap.size w1 w2) => Kd.C_below hCs h); clear hCs hcs hb1 AD
 by_cases h0 : es = 0
 case neg =>
  have q : (es != 0) = true := by simpa using h0
  clear h0
  go_wp2_with fail
  refine (LV.out w1).mono ?_; rintro e w5 ⟨rfl, hb5⟩; have HB5 := Lib.hid (HB1.out.trans (hb5.mono HB1.out.size)); clear hb5; go_wp2; go_ret; exact ⟨rfl, HB5.out⟩
 case pos =>
 subst h0; have X3 := Lib.hid (X1.out rfl); have X4 := Lib.hid (X2.out rfl); clear X1 X2
 go_wp2_with fail
 refine (PA.out w1 HB1.out).mono ?_; rintro e w2 ⟨Aa, ca, rfl, hCa, hca, hb2⟩; have HD2 := Lib.hid hb2; have HFa := Lib.hid (fun (w3 : World) (h : Below w2.heap.size w2 w3) => Kd.C_below hCa h); have HB2 := Lib.hid (HB1.out.trans (hb2.mono HB1.out.size)); clear hCa hca hb2 PA
 go_wp2_with fail
 refine (PB.out w2 HB2.out).mono ?_; rintro e w3 ⟨Ab, cb, rfl, hCb, hcb, hb3⟩; have HD3 := Lib.hid hb3; have HFb := Lib.hid (fun (w4 : World) (h : Below w3.heap.size w3 w4) => Kd.C_below hCb h); have HB3 := Lib.hid (HB2.out.trans (hb3.mono HB2.out.size)); have HE3 := Lib.hid (HD2.out.trans (hb3.mono HD2.out.size)); clear hCb hcb hb3 PB
 go_wp2_with fail
 refine (PS.out As cs w3 HB3.out (HS.out w3 HE3.out)).mono ?_; rintro e w4 ⟨Af, cf, rfl, hCf, hcf, hb4⟩; have HD4 := Lib.hid hb4; have HFf := Lib.hid (fun (w5 : World) (h : Below w4.heap.size w4 w5) => Kd.C_below hCf h); have HCf := Lib.hid hcf; have HB4 := Lib.hid (HB3.out.trans (hb4.mono HB3.out.size)); have HE4 := Lib.hid (HE3.out.trans (hb4.mono HE3.out.size)); clear hCf hcf hb4 PS
 go_upto_if 60 with (refine SortJ.stopC (n := 60) ?_; intro J hJ)
 refine Met.intro (hJ _ _ ?_)
 go_cut [] (fun wx => Below w4.heap.size w4 wx)
 case first =>
  clear hJ
  by_cases h1 : e1 = 0
  case neg =>
   have q1 : (e1 == 0) = false := by simpa using h1
   clear h1
   go_wp2_with fail
   go_meet
   exact Below.refl _ _
  case pos =>
  by_cases h2 : e2 = 0
  case neg =>
   have q2 : (e2 == 0) = false := by simpa using h2
   subst h1; clear h2
   go_wp2_with fail
   go_meet
   exact Below.refl _ _
  case pos =>
  by_cases h3 : e3 = 0
  case neg =>
   have q3 : (e3 == 0) = false := by simpa using h3
   subst h1 h2; clear h3
   go_wp2_with fail
   go_meet
   exact Below.refl _ _
  case pos =>
   have h4 := X3.out h1 h2 h3; subst h1 h2 h3; have AD2 := Lib.hid (add_any Aa Ab ca cb fa fb w4 (HFa.out w4 (HD3.out.trans (HD4.out.mono HD3.out.size))) (HFb.out w4 HD4.out) F1.out.1 F1.out.2.1); rw [h4] at AD2; clear h4
   go_wp2_with fail
   refine AD2.out.mono ?_; rintro e w5 ⟨At, ct, rfl, hCt, hct, hb5⟩; have SM := Lib.hid (hsame_calls At Af ct cf fs w5 hCt hct (HFf.out w5 hb5) HCf.out F1.out.2.2.2 F1.out.2.2.1); have HD5 := Lib.hid hb5; clear hCt hct hb5 AD2
   go_wp2_with fail
   refine SM.out.mono ?_; rintro e w6 ⟨rfl, hb6⟩; have HD6 := Lib.hid (HD5.out.trans (hb6.mono HD5.out.size)); clear hb6 SM
   go_wp2_with fail
   go_meet
   exact HD6.out
 case rest =>
 have HD5 := Lib.hid hcut; have HB5 := Lib.hid (HB4.out.trans (hcut.mono HB4.out.size)); have HE5 := Lib.hid (HE4.out.trans (hcut.mono HE4.out.size)); clear hcut X3 HFa HFb HFf HD2 HD3 HD4 HE3 HE4 HCf hJ
 go_wp2_with fail
 refine (QA.out wc HB5.out).mono ?_; rintro e w6 ⟨Aa, ca, rfl, hCa, hca, hb6⟩; have HPa := Lib.hid (fun (w3 : World) (h : Below w6.heap.size w6 w3) => Kd.C_below hCa h); have HB6 := Lib.hid (HB5.out.trans (hb6.mono HB5.out.size)); have HE6 := Lib.hid (HE5.out.trans (hb6.mono HE5.out.size)); clear hCa hca hb6 QA
 go_wp2_with fail
 refine (QB.out w6 HB6.out).mono ?_; rintro e w7 ⟨Ab, cb, rfl, hCb, hcb, hb7⟩; have HD7 := Lib.hid hb7; have HPb := Lib.hid (fun (w3 : World) (h : Below w7.heap.size w7 w3) => Kd.C_below hCb h); have HB7 := Lib.hid (HB6.out.trans (hb7.mono HB6.out.size)); have HE7 := Lib.hid (HE6.out.trans (hb7.mono HE6.out.size)); clear hCb hcb hb7 QB
 go_wp2_with fail
 refine (QS.out As cs w7 HB7.out (HS.out w7 HE7.out)).mono ?_; rintro e w8 ⟨Af, cf, rfl, hCf, hcf, hb8⟩; have HD8 := Lib.hid hb8; have HE8 := Lib.hid (HD7.out.trans (hb8.mono HD7.out.size)); have HPf := Lib.hid (fun (w5 : World) (h : Below w8.heap.size w8 w5) => Kd.C_below hCf h); have HCf := Lib.hid hcf; have HB8 := Lib.hid (HB7.out.trans (hb8.mono HB7.out.size)); clear hCf hcf hb8 QS HS; have FIN := Lib.hid (show ∀ w9, Below w.heap.size w w9 → Calls Tryz.prog 28 #[] w9 fun e w' => e = .returned (.bool true) ∧ Below w.heap.size w w' from fun w9 h => (LV.out w9).mono fun e w' z => ⟨z.1, h.trans (z.2.mono h.size)⟩)
 by_cases h4 : e4 = 0
 case neg =>
  have q : (e4 != 0) = true := by simpa using h4
  clear h4
  go_wp2_with fail
  refine (FIN.out _ HB8.out).mono ?_; rintro e w9 ⟨rfl, hb9⟩; go_wp2; go_ret; exact ⟨rfl, hb9⟩
 case pos =>
 by_cases h5 : e5 = 0
 case neg =>
  have q : (e5 != 0) = true := by simpa using h5
  subst h4; clear h5
  go_wp2_with fail
  refine (FIN.out _ HB8.out).mono ?_; rintro e w9 ⟨rfl, hb9⟩; go_wp2; go_ret; exact ⟨rfl, hb9⟩
 case pos =>
 by_cases h6 : e6 = 0
 case neg =>
  have q : (e6 != 0) = true := by simpa using h6
  subst h4 h5; clear h6
  go_wp2_with fail
  refine (FIN.out _ HB8.out).mono ?_; rintro e w9 ⟨rfl, hb9⟩; go_wp2; go_ret; exact ⟨rfl, hb9⟩
 case pos =>
 have h7 := X4.out h4 h5 h6; subst h4 h5 h6; have AD3 := Lib.hid (add_any Aa Ab ca cb pa pb w8 (HPa.out w8 HE8.out) (HPb.out w8 HD8.out) F2.out.1 F2.out.2.1); rw [h7] at AD3; clear h7 X4
 go_wp2_with fail
 refine AD3.out.mono ?_; rintro e w9 ⟨At, ct, rfl, hCt, hct, hb9⟩; have HT := Lib.hid (fun (w5 : World) (h : Below w9.heap.size w9 w5) => Kd.C_below hCt h); have HCt := Lib.hid hct; have HD9 := Lib.hid hb9; have HB9 := Lib.hid (HB8.out.trans (hb9.mono HB8.out.size)); clear hCt hct hb9 AD3
 go_wp2_with fail
 refine (LV.out w9).mono ?_; rintro e w10 ⟨rfl, hb10⟩; have HB10 := Lib.hid (HB9.out.trans (hb10.mono HB9.out.size)); have SM := Lib.hid (hsame_calls At Af ct cf ps w10 (HT.out w10 hb10) HCt.out (HPf.out w10 (HD9.out.trans (hb10.mono HD9.out.size))) HCf.out F2.out.2.2.2 F2.out.2.2.1); clear hb10
 go_wp2_with fail
 refine SM.out.mono ?_; rintro e w11 ⟨rfl, hb11⟩; have HB11 := Lib.hid (HB10.out.trans (hb11.mono HB10.out.size)); clear hb11; go_wp2; go_ret; exact ⟨rfl, HB11.out⟩
theorem joinSums_walk (A0 : Option Addr) (c0 : Nat) (l0 : List EdP) (A1 : Option Addr) (c1 : Nat) (l1 : List EdP) (A2 : Option Addr) (c2 : Nat) (l2 : List EdP) (A3 : Option Addr) (c3 : Nat) (l3 : List Op8) (w : World) (hr0 : Kd.C k41 w A0 l0.length l0) (hc0 : l0.length ≤ c0) (h0 : wfEs l0)
  (hr1 : Kd.C k41 w A1 l1.length l1) (hc1 : l1.length ≤ c1) (h1 : wfEs l1) (hr2 : Kd.C k41 w A2 l2.length l2) (hc2 : l2.length ≤ c2) (h2 : wfEs l2)
  (hr3 : Kd.C k68 w A3 l3.length l3) (hc3 : l3.length ≤ c3) (h3 : wfX l3) :
  Calls Tryz.prog 11 #[.slice A0 l0.length c0, .slice A1 l1.length c1, .slice A2 l2.length c2, .slice A3 l3.length c3] w fun e w' => e = .returned (.bool true) ∧ Below w.heap.size w w' :=
 joinSums_calls A0 A1 A2 A3 c0 c1 c2 c3 l0 l1 l2 l3 w hr0 hr1 hr2 hr3 hc3 (okEs_wf h0) (okEs_wf h1) (okEs_wf h2) (okXs_wf h3)
end Go.Proofs.YtmkgecapkeojaaaGreat.Eg
end
