/- Texts of this claim, put together by a program: JoinL, LiveP, LiveJ, Ahead, AheadP, LawFW, LawJA, WSized. -/
import Derived.Test.YtmkgecapkeojaaaGreatX9
import Derived.SizedLaws
import Derived.ChangeSlices
set_option linter.unusedVariables false
set_option linter.unusedSimpArgs false
set_option maxHeartbeats 8000000
set_option maxRecDepth 100000
section
namespace Go.Proofs.YtmkgecapkeojaaaGreat.Eg
open Go.Proofs.YtmkgecapkeojaaaGreat Go.Proofs.YtmkgecapkeojaaaGreat.PDa
open Go.Proofs.YtmkgecapkeojaaaGreat.EvP (evalV formV holdsV)
open Go.RowKit Go.Proofs.YtmkgecapkeojaaaGreatW.PrintWords Go.Proofs.YtmkgecapkeojaaaGreat.Stp Go.Proofs.YtmkgecapkeojaaaGreat.Rw Go.Proofs.YtmkgecapkeojaaaGreat.Cmp Go.Proofs.YtmkgecapkeojaaaGreat.Canon
def pairsV (hh : List Vl → Bool × Int) (ef : Int) (l r : List EdP) : List EdP × Int :=
 if (mayE l && mayE r) = true then (if ef ≠ 0 then ([], ef) else if (accR (edgesJ hh) [] (pairsL (runsP l) (runsP r))).2 ≠ 0 then ([], (accR (edgesJ hh) [] (pairsL (runsP l) (runsP r))).2)
  else normV (accR (edgesJ hh) [] (pairsL (runsP l) (runsP r))).1) else ([], 2)
theorem pairs_is {hh : List Vl → Bool × Int} {ef : Int} {l r : List EdP} {o : List EdP × Int} (h : PairsIs hh ef l r o) : o = pairsV hh ef l r := by
 unfold pairsV
 rcases h with ⟨h1, h2⟩ | ⟨h1, h2, h3⟩ | ⟨h1, h2, h3, h4⟩ | ⟨h1, h2, h3, h4⟩
 ·rw [if_neg (by rw [h1]; decide), h2]
 ·rw [if_pos h1, if_pos h2, h3]
 ·rw [if_pos h1, if_neg (by simpa using h2), if_pos h3, h4]
 ·rw [if_pos h1, if_neg (by simpa using h2), if_neg (by simpa using h3)]; exact norm_is h4
def Wt (φ : List Vl → Int) (t : Int) (l : List EdP) : Int := S (fun k => if k.2 ≤ t then φ k.1 else 0) (l.map pE)
theorem Wt_append (φ : List Vl → Int) (t : Int) (a b : List EdP) : Wt φ t (a ++ b) = Wt φ t a + Wt φ t b := by unfold Wt; rw [List.map_append, S_append]
theorem Wt_J (φ : List Vl → Int) (t : Int) {a b : List EdP} (h : ∀ k, JE a k = JE b k) : Wt φ t a = Wt φ t b := S_congr _ h
theorem Wt_nil (φ : List Vl → Int) (t : Int) : Wt φ t [] = 0 := rfl
theorem Wt_cons (φ : List Vl → Int) (t : Int) (e : EdP) (es : List EdP) : Wt φ t (e :: es) = (if e.f1 ≤ t then φ e.f0 else 0) * e.f2 + Wt φ t es := rfl
theorem Wt_put (φ : List Vl → Int) (t : Int) (r : List Vl) : ∀ f : List Jp, Wt φ t (putP [] r f) = φ r * valI f t
 | [] => by simp [putP, Wt_nil, valI]
 | j :: js => by
  have e : putP [] r (j :: js) = ⟨r, j.f0, j.f1⟩ :: putP [] r js := rfl; rw [e, Wt_cons, Wt_put φ t r js, valI]
  split
  ·rw [Int.mul_add]
  ·simp
def Sm {α : Type} (f : α → Int) : List α → Int
 | [] => 0
 | x :: xs => f x + Sm f xs
theorem Sm_congr {α : Type} {f g : α → Int} : ∀ {l : List α}, (∀ x ∈ l, f x = g x) → Sm f l = Sm g l
 | [], _ => rfl
 | x :: xs, h => by rw [Sm, Sm, h x List.mem_cons_self, Sm_congr fun y hy => h y (List.mem_cons_of_mem _ hy)]
theorem Sm_append {α : Type} (f : α → Int) : ∀ a b : List α, Sm f (a ++ b) = Sm f a + Sm f b
 | [], b => by simp [Sm]
 | x :: xs, b => by rw [List.cons_append, Sm, Sm, Sm_append f xs b]; omega
theorem Sm_map {α β : Type} (f : β → Int) (g : α → β) : ∀ l : List α, Sm f (l.map g) = Sm (fun x => f (g x)) l
 | [] => rfl
 | x :: xs => by rw [List.map_cons, Sm, Sm, Sm_map f g xs]
theorem Sm_mul {α : Type} (c : Int) (f : α → Int) : ∀ l : List α, Sm (fun x => c * f x) l = c * Sm f l
 | [] => by simp [Sm]
 | x :: xs => by rw [Sm, Sm, Sm_mul c f xs, Int.mul_add]
theorem Wt_flatMap {α : Type} (φ : List Vl → Int) (t : Int) (g : α → List EdP) : ∀ l : List α, Wt φ t (l.flatMap g) = Sm (fun x => Wt φ t (g x)) l
 | [] => rfl
 | x :: xs => by rw [List.flatMap_cons, Wt_append, Wt_flatMap φ t g xs, Sm]
theorem Wt_flatG (φ : List Vl → Int) (t : Int) (G : List Gr) : Wt φ t (flatG G) = Sm (fun x => φ x.1 * valI x.2 t) G := by
 unfold flatG; rw [Wt_flatMap]; exact Sm_congr fun x _ => Wt_put φ t x.1 x.2
theorem Wt_runs (φ : List Vl → Int) (t : Int) (l : List EdP) : Sm (fun x => φ x.1 * valI x.2 t) (runsP l) = Wt φ t l := by rw [← Wt_flatG, runs_flat]
theorem Wt_mul (c : Int) (φ : List Vl → Int) (t : Int) : ∀ l : List EdP, Wt (fun q => c * φ q) t l = c * Wt φ t l
 | [] => by simp [Wt_nil]
 | e :: es => by
  rw [Wt_cons, Wt_cons, Wt_mul c φ t es, Int.mul_add, ← Int.mul_assoc]
  split <;> simp
def Bf (ψ : List Vl → Int) (t : Int) (l r : List EdP) : Int := Wt (fun p => Wt (fun q => ψ (p ++ q)) t r) t l
theorem Bf_runs (ψ : List Vl → Int) (t : Int) (l r : List EdP) : Sm (fun x : Gr × Gr => ψ (x.1.1 ++ x.2.1) * (valI x.1.2 t * valI x.2.2 t)) (pairsL (runsP l) (runsP r)) = Bf ψ t l r := by
 unfold Bf; rw [← Wt_runs]; generalize runsP l = G
 induction G with
 | nil => rfl
 | cons x xs ih =>
  have e : pairsL (x :: xs) (runsP r) = ((runsP r).map fun y => (x, y)) ++ pairsL xs (runsP r) := by simp [pairsL]
  rw [e, Sm_append, ih, Sm_map, Sm, ← Wt_runs]
  congr 1
  rw [Int.mul_comm, ← Sm_mul]; exact Sm_congr fun y _ => by
   show ψ (x.1 ++ y.1) * (valI x.2 t * valI y.2 t) = valI x.2 t * (ψ (x.1 ++ y.1) * valI y.2 t)
   rw [Int.mul_left_comm]
def kJ_ (hh : List Vl → Bool × Int) (r : List Vl) : Int := if (hh r).2 = 0 ∧ (hh r).1 = false then 0 else 1
theorem rowMay_app {a b : List Vl} (ha : rowMay a = true) (hb : rowMay b = true) (h : a.length + b.length ≤ 8) : rowMay (a ++ b) = true := by
 unfold rowMay; rw [Bool.and_eq_true, List.all_append, Bool.and_eq_true, List.all_eq_true, List.all_eq_true]; exact ⟨decide_eq_true (by rw [List.length_append]; omega), rowMay_all ha, rowMay_all hb⟩
theorem joinV_ok {a b c : List Vl} (h : joinV a b = (c, 0)) : rowMay a = true ∧ rowMay b = true ∧ a.length + b.length ≤ 8 ∧ c = a ++ b := by
 unfold joinV at h
 by_cases h1 : (rowMay a && rowMay b) = true
 ·rw [if_pos h1] at h
  rw [Bool.and_eq_true] at h1
  by_cases h2 : 8 < a.length + b.length
  ·rw [if_pos h2] at h; cases h
  ·rw [if_neg h2] at h
   exact ⟨h1.1, h1.2, by omega, (congrArg Prod.fst h).symm⟩
 ·rw [if_neg h1] at h; cases h
theorem edgesJ_val (hh : List Vl → Bool × Int) (x y : Gr) {es : List EdP} (h : edgesJ hh x y = (es, 0)) (φ : List Vl → Int) (t : Int) :
  Wt φ t es = (kJ_ hh (x.1 ++ y.1) * φ (x.1 ++ y.1)) * (valI x.2 t * valI y.2 t) ∧ okN es := by
 have ok0 : okN [] := ⟨fun e he => (by cases he), fun e he => (by cases he)⟩
 unfold edgesJ at h; obtain ⟨⟨g, eg⟩, hg⟩ : ∃ z, bothV (· * ·) x.2 y.2 = z := ⟨_, rfl⟩
 rw [hg] at h; simp only at h
 by_cases e1 : eg = 0
 ·subst e1
  rw [if_neg (by simp)] at h; obtain ⟨_, _, hm, hv⟩ := bothV_val (op := (· * ·)) rfl hg; have hv : valI g t = valI x.2 t * valI y.2 t := hv t
  by_cases e2 : g = []
  ·rw [if_pos e2] at h
   cases h; rw [← hv, e2]; exact ⟨by simp [Wt_nil, valI], ok0⟩
  ·rw [if_neg e2] at h
   obtain ⟨⟨c, ec⟩, hc⟩ : ∃ z, joinV x.1 y.1 = z := ⟨_, rfl⟩
   rw [hc] at h; simp only at h
   by_cases e3 : ec = 0
   ·subst e3
    rw [if_neg (by simp)] at h; obtain ⟨ra, rb, rl, rfl⟩ := joinV_ok hc
    by_cases e4 : (hh (x.1 ++ y.1)).2 = 0
    ·rw [if_neg (by simpa using e4)] at h
     by_cases e5 : (hh (x.1 ++ y.1)).1 = true
     ·rw [if_pos e5] at h
      cases h; have hb : buildP (x.1 ++ y.1) g = putP [] (x.1 ++ y.1) g := by unfold buildP; rw [if_pos (by rw [rowMay_app ra rb rl, hm]; rfl)]
      rw [hb, Wt_put, hv]; refine ⟨by unfold kJ_; rw [if_neg (by rw [e5]; simp), Int.one_mul], ⟨fun e he => ?_, fun e he => ?_⟩⟩ <;>
       (unfold putP at he; rw [List.nil_append] at he; obtain ⟨j, hj, rfl⟩ := List.mem_map.1 he; obtain ⟨_, hp, _⟩ := mayJ_parts hm; obtain ⟨q1, q2, q3, q4⟩ := hp j hj)
      ·exact argE_ok (rowMay_app ra rb rl) q4
      ·unfold timeB
       rw [decide_eq_false (show ¬ j.f0 < -1 by omega), decide_eq_false (show ¬ j.f0 > 1125899906842624 by omega)]; rfl
     ·rw [if_neg e5] at h
      cases h; exact ⟨by unfold kJ_; rw [if_pos ⟨e4, by simpa using e5⟩, Int.zero_mul, Int.zero_mul]; rfl, ok0⟩
    ·rw [if_pos e4] at h
     exact absurd (congrArg Prod.snd h) e4
   ·rw [if_pos e3] at h
    exact absurd (congrArg Prod.snd h) e3
 ·rw [if_pos e1] at h
  exact absurd (congrArg Prod.snd h) e1
theorem accR_ok (ed : Gr → Gr → List EdP × Int) : ∀ (its : List (Gr × Gr)) (out : List EdP), (accR ed out its).2 = 0 → (∀ x ∈ its, (ed x.1 x.2).2 = 0) ∧ (accR ed out its).1 = out ++ its.flatMap fun x => (ed x.1 x.2).1
 | [], out, _ => ⟨fun x hx => (by cases hx), by simp [accR]⟩
 | x :: xs, out, h => by
  rw [accR] at h ⊢
  by_cases c : (ed x.1 x.2).2 = 0
  ·rw [if_neg (by simpa using c)] at h ⊢
   obtain ⟨h1, h2⟩ := accR_ok ed xs _ h; refine ⟨fun y hy => ?_, by rw [h2, List.flatMap_cons, List.append_assoc]⟩
   rcases List.mem_cons.1 hy with rfl | hy
   ·exact c
   ·exact h1 y hy
  ·rw [if_pos (by simpa using c)] at h
   exact absurd h c
theorem edgesJ_late (hh : List Vl → Bool × Int) (x y : Gr) (e : EdP) (h : e ∈ (edgesJ hh x y).1) : e.f1 < 1125899906842624 := by
 have hb : ∀ (r : List Vl) (f : List Jp), e ∈ buildP r f → e.f1 < 1125899906842624 := by
  intro r f h; unfold buildP at h
  split at h
  ·rename_i c
   rw [Bool.and_eq_true] at c; unfold putP at h; rw [List.nil_append] at h; obtain ⟨j, hj, rfl⟩ := List.mem_map.1 h; exact ((mayJ_parts c.2).2.1 j hj).2.1
  ·cases h
 unfold edgesJ at h
 repeat' split at h
 all_goals first | exact hb _ _ h | cases h
theorem pairs_val {hh : List Vl → Bool × Int} {ef : Int} {l r a : List EdP} (h : pairsV hh ef l r = (a, 0)) :
  MayP l ∧ MayP r ∧ MayP a ∧ ef = 0 ∧ (∀ x ∈ pairsL (runsP l) (runsP r), (edgesJ hh x.1 x.2).2 = 0) ∧ ∀ φ t, Wt φ t a = Bf (fun q => kJ_ hh q * φ q) t l r := by
 unfold pairsV at h
 by_cases c : (mayE l && mayE r) = true
 ·rw [if_pos c] at h
  rw [Bool.and_eq_true, mayE_iff, mayE_iff] at c
  by_cases c2 : ef = 0
  ·rw [if_neg (by simpa using c2)] at h
   by_cases c3 : (accR (edgesJ hh) [] (pairsL (runsP l) (runsP r))).2 = 0
   ·rw [if_neg (by simpa using c3)] at h
    obtain ⟨h1, h2⟩ := accR_ok _ _ _ c3; rw [h2, List.nil_append] at h; have ok : okN ((pairsL (runsP l) (runsP r)).flatMap fun x => (edgesJ hh x.1 x.2).1) := by
     refine ⟨fun e he => ?_, fun e he => ?_⟩ <;> (obtain ⟨x, hx, hx2⟩ := List.mem_flatMap.1 he; have h3 := (edgesJ_val hh x.1 x.2 (Prod.ext rfl (h1 x hx)) (fun _ => 0) 0).2)
     ·exact h3.1 e hx2
     ·exact h3.2 e hx2
    obtain ⟨_, hf, e⟩ := okN_of_norm (l := (pairsL (runsP l) (runsP r)).flatMap fun x => (edgesJ hh x.1 x.2).1) (by rw [h]); rw [h] at e; obtain rfl : a = flat ((pairsL (runsP l) (runsP r)).flatMap fun x => (edgesJ hh x.1 x.2).1) := congrArg Prod.fst e; refine ⟨c.1, c.2, flat_may ok hf, c2, h1, fun φ t => ?_⟩; rw [Wt_J (b := (pairsL (runsP l) (runsP r)).flatMap fun x => (edgesJ hh x.1 x.2).1) φ t (fun k => ?_), Wt_flatMap, ← Bf_runs]
    ·exact Sm_congr fun x hx => (edgesJ_val hh x.1 x.2 (Prod.ext rfl (h1 x hx)) φ t).1
    ·obtain ⟨q, s⟩ := k
     rw [flat_J]
     split
     ·rfl
     ·rename_i c4
      refine (J_none _ _ fun z hz e => c4 ?_).symm; obtain ⟨y, hy, rfl⟩ := List.mem_map.1 hz; obtain ⟨x, hx, hy2⟩ := List.mem_flatMap.1 hy; have e2 : y.f1 = s := (Prod.mk.inj e).2; rw [← e2]; exact edgesJ_late hh x.1 x.2 y hy2
   ·rw [if_pos (by simpa using c3)] at h
    exact absurd (congrArg Prod.snd h) c3
  ·rw [if_pos (by simpa using c2)] at h
   exact absurd (congrArg Prod.snd h) c2
 ·rw [if_neg c] at h; cases h
theorem J_Wt (r : List Vl) (t : Int) : ∀ l : List EdP, JE l (r, t) = Wt (fun q => if q = r then 1 else 0) t l - Wt (fun q => if q = r then 1 else 0) (t - 1) l
 | [] => rfl
 | e :: es => by
  show J (pE e :: es.map pE) (r, t) = _
  rw [J_cons, show J (es.map pE) (r, t) = JE es (r, t) from rfl, J_Wt r t es, Wt_cons, Wt_cons]
  show (if (e.f0, e.f1) = (r, t) then e.f2 else 0) + _ = _
  have h9 : (t ≤ t - 1) = False := eq_false (by omega)
  by_cases h : e.f0 = r <;> by_cases h2 : e.f1 = t <;> by_cases h4 : e.f1 ≤ t <;> by_cases h5 : e.f1 ≤ t - 1 <;> first | (exfalso; omega) | (simp only [h, h2, h4, h5, h9, Prod.mk.injEq, and_true, true_and, and_false, false_and, if_true, if_false, Int.le_refl]; first | omega | (simp; try omega))
theorem pairsV_row (hh : List Vl → Bool × Int) (ef : Int) (l r : List EdP) : (∀ e ∈ (pairsV hh ef l r).1, e.f0.length ≤ 8) ∧ (pairsV hh ef l r).1.length ≤ 4096 ∧ ((pairsV hh ef l r).2 ≠ 0 → (pairsV hh ef l r).1 = []) := by
 obtain ⟨⟨a, e⟩, h⟩ : ∃ z, pairsV hh ef l r = z := ⟨_, rfl⟩
 rw [h]
 by_cases c : e = 0
 ·subst c
  obtain ⟨_, _, m, _⟩ := pairs_val h; exact ⟨fun e he => rowMay_len (m.each e he).1, m.len, fun h => absurd rfl h⟩
 ·suffices a = [] by subst this; exact ⟨fun e he => (by cases he), Nat.zero_le _, fun _ => rfl⟩
  unfold pairsV at h
  split at h
  ·split at h
   ·exact (congrArg Prod.fst h).symm
   ·split at h
    ·exact (congrArg Prod.fst h).symm
    ·rcases normV_cases (accR (edgesJ hh) [] (pairsL (runsP l) (runsP r))).1 with ⟨_, _, h2⟩ | ⟨k, _, h2⟩
     ·rw [h2] at h; exact absurd (congrArg Prod.snd h).symm c
     ·rw [h2] at h; exact (congrArg Prod.fst h).symm
  ·exact (congrArg Prod.fst h).symm
end Go.Proofs.YtmkgecapkeojaaaGreat.Eg
end
section
namespace Go.Proofs.YtmkgecapkeojaaaGreat.Eg
open Go.Proofs.YtmkgecapkeojaaaGreat Go.Proofs.YtmkgecapkeojaaaGreat.PDa Go.Proofs.YtmkgecapkeojaaaGreat.EvP
open Go.RowKit Go.Proofs.YtmkgecapkeojaaaGreatW.PrintWords Go.Proofs.YtmkgecapkeojaaaGreatW.PrintLast Go.Proofs.YtmkgecapkeojaaaGreatW.PrintMore
open Go.Proofs.YtmkgecapkeojaaaGreat.Stp Go.Proofs.YtmkgecapkeojaaaGreat.Rw
theorem nilT : (⟨#[]⟩ : ByteArray).toList = [] := (toList_nil_iff_emptyBytes _).2 rfl
theorem rowMay1 (a : Int) : rowMay [⟨1, a, ⟨#[]⟩⟩] = true := by simp [rowMay, thOf, nilT]
theorem thO_num (a : Int) : thO (Th.num a) = some (Th.num a) := by
 simp [thO, thVal3, thOf]
theorem pairs_any (A0 A1 A2 : Option Addr) (c0 c1 c2 : Nat) (l r : List EdP) (x : List Op8) (w : World) (hr0 : Kd.C kE w A0 l.length l) (hr1 : Kd.C kE w A1 r.length r) (hr2 : Kd.C kO w A2 x.length x) (hc2 : x.length ≤ c2) (hl : PDd.okEs l = true) (hr : PDd.okEs r = true) (hx : PDd.okXs x = true) :
  Calls Tryz.prog 29 #[.slice A0 l.length c0, .slice A1 r.length c1, .slice A2 x.length c2] w (Ans (pairsV (EvP.holdsV x) (EvP.formV x) l r) w) := by
 refine (Pairs_calls (EvP.holdsV x) (EvP.formV x) A0 A1 A2 c0 c1 c2 l r x w hr0 (PDd.okEs_row hl) hr1 (PDd.okEs_row hr) hr2 hc2 (fun _ _ a b ha hb hj => ?_) (EvP.form_E x).get).mono ?_
 ·obtain ⟨⟨c, ec⟩, hc⟩ : ∃ z, joinV a.1 b.1 = z := ⟨_, rfl⟩
  rw [hc] at hj ⊢; simp only at hj; subst hj; obtain ⟨_, _, _, rfl⟩ := joinV_ok hc; obtain ⟨⟨e, he, e1⟩, _⟩ := runs_mem l a ha; obtain ⟨⟨f, hf, f1⟩, _⟩ := runs_mem r b hb; refine (EvP.holds_E x _ ⟨(PDd.okX hl hx e he).x, fun v hv => ?_⟩).get
  rcases List.mem_append.1 hv with hv | hv
  ·exact (PDd.okX hl hx e he).row v (e1 ▸ hv)
  ·exact (PDd.okX hr hx f hf).row v (f1 ▸ hv)
 ·rintro e w' ⟨v, o, ho, rfl, hR, hb⟩
  obtain rfl := pairs_is ho; obtain ⟨A, c, rfl⟩ := Kd.R_slice hR; exact ⟨A, c, rfl, (Kd.R_reads' hR).2.2, (Kd.R_reads' hR).2.1, hb⟩
def v7 : Rw.Vl := ⟨1, 7, ⟨#[]⟩⟩
def a2 : EdP := ⟨[v1], 9, -1⟩
def b1 : EdP := ⟨[v7], 5, 1⟩
def b2 : EdP := ⟨[v7], 12, -1⟩
def jx1 : List Op8 := [⟨1, 1, ⟨#[]⟩⟩]
def jx2 : List Op8 := [⟨3, 0, ⟨#[]⟩⟩, ⟨3, 1, ⟨#[]⟩⟩, ⟨13, 0, ⟨#[]⟩⟩]
def p1 : EdP := ⟨[v1, v7], 5, 1⟩
def p2 : EdP := ⟨[v1, v7], 9, -1⟩
def jt1 : T := .l ⟨1, 1, ⟨#[]⟩⟩
def jt2 : T := .b ⟨13, 0, ⟨#[]⟩⟩ (.l ⟨3, 0, ⟨#[]⟩⟩) (.l ⟨3, 1, ⟨#[]⟩⟩)
theorem jt1_ok : jt1.ok := by
 refine ⟨?_, by decide⟩ ; simp [okW, noT, nilT, takes]
theorem jt2_ok : jt2.ok := by
 refine ⟨?_, by decide, ⟨?_, by decide⟩, ⟨?_, by decide⟩⟩ <;> simp [okW, noT, nilT, takes]
theorem jx1_form : formV jx1 = 0 := by
 have h := parse_fl jt1 jt1_ok [] []; rw [List.append_nil] at h; have e : jt1.fl = jx1 := rfl; unfold formV; rw [if_neg zq34, ← e, h]; rfl
theorem jx2_form : formV jx2 = 0 := by
 have h := parse_fl jt2 jt2_ok [] []; rw [List.append_nil] at h; have e : jt2.fl = jx2 := rfl; unfold formV; rw [if_neg zq34, ← e, h]; rfl
theorem may17 : rowMay [v1, v7] = true := by simp [rowMay, thOf, nilT, v1, v7]
theorem jx1_v : holdsV jx1 [v1, v7] = (true, 0) := by
 have e : jt1.fl = jx1 := rfl; have h : evalV jx1 [v1, v7] = (1, 1, ⟨#[]⟩, 0) := by
  rw [← e, evalV_T jt1 jt1_ok _ (by rw [e]; exact jx1_form) may17]
  rfl
 unfold holdsV; rw [h]
 rfl
theorem jx2_v : holdsV jx2 [v1, v7] = (false, 0) := by
 have e : jt2.fl = jx2 := rfl; have h : evalV jx2 [v1, v7] = (1, 0, ⟨#[]⟩, 0) := by
  rw [← e, evalV_T jt2 jt2_ok _ (by rw [e]; exact jx2_form) may17]; simp [T.ev, jt2, evL, evB, v1, v7, compareS, getTh, rd_T65, outV, thVal3, Except.map]; simp only [thO_num]
  rfl
 unfold holdsV; rw [h]
 rfl
theorem runs2 (r : List Rw.Vl) (a b c d : Int) : runsP [⟨r, a, b⟩, ⟨r, c, d⟩] = [(r, [⟨a, b⟩, ⟨c, d⟩])] := by simp [runsP, runAt, eqR_refl, jmpE]
theorem may2 (r : List Rw.Vl) (a b c d : Int) (hr : rowMay r = true) (hm : mayJ [⟨a, b⟩, ⟨c, d⟩] = true) : mayE [⟨r, a, b⟩, ⟨r, c, d⟩] = true := by
 unfold mayE eachP; rw [runs2]; simp only [eachR, lastB, hr, hm]
 rfl
theorem mul59 : bothV (· * ·) [⟨2, 1⟩, ⟨9, -1⟩] [⟨5, 1⟩, ⟨12, -1⟩] = ([⟨5, 1⟩, ⟨9, -1⟩], 0) := by rfl
theorem join17 : joinV [v1] [v7] = ([v1, v7], 0) := by
 unfold joinV; rw [show rowMay [v1] = true from rowMay1 1, show rowMay [v7] = true from rowMay1 7]
 rfl
theorem liveJ (hh : List Rw.Vl → Bool × Int) (ok : Bool) (h : hh [v1, v7] = (ok, 0)) : pairsV hh 0 [e1, a2] [b1, b2] = (if ok = true then [p1, p2] else [], 0) := by
 have m1 : mayE [e1, a2] = true := may2 [v1] 2 1 9 (-1) (rowMay1 1) rfl; have m2 : mayE [b1, b2] = true := may2 [v7] 5 1 12 (-1) (rowMay1 7) rfl; have m3 : mayE [p1, p2] = true := may2 [v1, v7] 5 1 9 (-1) may17 rfl; have ed : edgesJ hh ([v1], [⟨2, 1⟩, ⟨9, -1⟩]) ([v7], [⟨5, 1⟩, ⟨12, -1⟩]) = (if ok = true then [p1, p2] else [], 0) := by
  unfold edgesJ; simp only [mul59, join17, h]; rw [if_neg zq34, if_neg zq34, if_neg zq34, if_neg zq34]; cases ok
  ·rfl
  ·rw [if_pos rfl, if_pos rfl]
   unfold buildP; rw [may17]
   rfl
 unfold pairsV; rw [m1, m2, if_pos (by rfl), if_neg zq34, show runsP [e1, a2] = [([v1], [⟨2, 1⟩, ⟨9, -1⟩])] from runs2 _ _ _ _ _, show runsP [b1, b2] = [([v7], [⟨5, 1⟩, ⟨12, -1⟩])] from runs2 _ _ _ _ _]; have ac : accR (edgesJ hh) [] (pairsL [([v1], [⟨2, 1⟩, ⟨9, -1⟩])] [([v7], [⟨5, 1⟩, ⟨12, -1⟩])]) = (if ok = true then [p1, p2] else [], 0) := by
  simp only [pairsL, List.flatMap_cons, List.flatMap_nil, List.map_cons, List.map_nil, List.append_nil, accR, ed, List.nil_append]; rw [if_neg zq34]
 rw [ac, if_neg zq30]; cases ok
 ·rfl
 ·exact ((mayE_iff _).1 m3).norm
theorem factJ1 : pairsV (holdsV jx1) (formV jx1) [e1, a2] [b1, b2] = ([p1, p2], 0) := by rw [jx1_form]; exact liveJ _ true jx1_v
theorem factJ2 : pairsV (holdsV jx2) (formV jx2) [e1, a2] [b1, b2] = ([], 0) := by rw [jx2_form]; exact liveJ _ false jx2_v
theorem liveJ_calls (w : World) : Calls Tryz.prog 28 #[] w fun e w' => e = .returned (.bool true) ∧ Below w.heap.size w w' := by
 go_enter Tryz.func28, Tryz.ntmps28
 go_wp2_with (go_at_call 29; refine hold_intro ?_)
 refine ⟨?_⟩; obtain ⟨W1, hW1⟩ : ∃ W1, ((((((w.alloc (.cells #[.int .i64 1, .int .i64 1, .string ⟨#[]⟩] 65 (0, 0))).alloc (.cells #[.int .i64 1, .int .i64 1, .string ⟨#[]⟩] 65 (0, 0))).alloc (.cells #[.slice (some ⟨w.heap.size, 0, none⟩) 1 1, .int .i64 2, .int .i64 1, .slice (some ⟨w.heap.size + 1, 0, none⟩) 1 1, .int .i64 9, .int .i64 (-1)] 41 (0, 0))).alloc (.cells #[.int .i64 1, .int .i64 7, .string ⟨#[]⟩] 65 (0, 0))).alloc (.cells #[.int .i64 1, .int .i64 7, .string ⟨#[]⟩] 65 (0, 0))).alloc (.cells #[.slice (some ⟨w.heap.size + 1 + 1 + 1, 0, none⟩) 1 1, .int .i64 5, .int .i64 1, .slice (some ⟨w.heap.size + 1 + 1 + 1 + 1, 0, none⟩) 1 1, .int .i64 12, .int .i64 (-1)] 41 (0, 0))).alloc (.cells #[.int .i64 1, .int .i64 1, .string ⟨#[]⟩] 68 (0, 0)) = W1 := ⟨_, rfl⟩
 have hsW1 : W1.heap.size = w.heap.size + 7 := by rw [← hW1]; simp
 have hbW1 : Below w.heap.size w W1 := by rw [← hW1]; exact below_alloc (below_alloc (below_alloc (below_alloc (below_alloc (below_alloc (below_alloc (Below.refl _ w) _) _) _) _) _) _) _
 have k0 : W1.heap[w.heap.size]? = some (.cells #[.int .i64 1, .int .i64 1, .string ⟨#[]⟩] 65 (0, 0)) := by
  have h1 := blk_new (w) (.cells #[.int .i64 1, .int .i64 1, .string ⟨#[]⟩] 65 (0, 0)); rw [← hW1]; exact blk_alloc (blk_alloc (blk_alloc (blk_alloc (blk_alloc (blk_alloc (h1) _) _) _) _) _) _
 have k1 : W1.heap[w.heap.size + 1]? = some (.cells #[.int .i64 1, .int .i64 1, .string ⟨#[]⟩] 65 (0, 0)) := by
  have h1 := blk_new (w.alloc (.cells #[.int .i64 1, .int .i64 1, .string ⟨#[]⟩] 65 (0, 0))) (.cells #[.int .i64 1, .int .i64 1, .string ⟨#[]⟩] 65 (0, 0)); rw [World.size_alloc] at h1; rw [← hW1]; exact blk_alloc (blk_alloc (blk_alloc (blk_alloc (blk_alloc (h1) _) _) _) _) _
 have k2 : W1.heap[w.heap.size + 1 + 1]? = some (.cells #[.slice (some ⟨w.heap.size, 0, none⟩) 1 1, .int .i64 2, .int .i64 1, .slice (some ⟨w.heap.size + 1, 0, none⟩) 1 1, .int .i64 9, .int .i64 (-1)] 41 (0, 0)) := by
  have h1 := blk_new ((w.alloc (.cells #[.int .i64 1, .int .i64 1, .string ⟨#[]⟩] 65 (0, 0))).alloc (.cells #[.int .i64 1, .int .i64 1, .string ⟨#[]⟩] 65 (0, 0))) (.cells #[.slice (some ⟨w.heap.size, 0, none⟩) 1 1, .int .i64 2, .int .i64 1, .slice (some ⟨w.heap.size + 1, 0, none⟩) 1 1, .int .i64 9, .int .i64 (-1)] 41 (0, 0)); rw [World.size_alloc, World.size_alloc] at h1; rw [← hW1]; exact blk_alloc (blk_alloc (blk_alloc (blk_alloc (h1) _) _) _) _
 have k3 : W1.heap[w.heap.size + 1 + 1 + 1]? = some (.cells #[.int .i64 1, .int .i64 7, .string ⟨#[]⟩] 65 (0, 0)) := by
  have h1 := blk_new (((w.alloc (.cells #[.int .i64 1, .int .i64 1, .string ⟨#[]⟩] 65 (0, 0))).alloc (.cells #[.int .i64 1, .int .i64 1, .string ⟨#[]⟩] 65 (0, 0))).alloc (.cells #[.slice (some ⟨w.heap.size, 0, none⟩) 1 1, .int .i64 2, .int .i64 1, .slice (some ⟨w.heap.size + 1, 0, none⟩) 1 1, .int .i64 9, .int .i64 (-1)] 41 (0, 0))) (.cells #[.int .i64 1, .int .i64 7, .string ⟨#[]⟩] 65 (0, 0)); rw [World.size_alloc, World.size_alloc, World.size_alloc] at h1; rw [← hW1]; exact blk_alloc (blk_alloc (blk_alloc (h1) _) _) _
 have k4 : W1.heap[w.heap.size + 1 + 1 + 1 + 1]? = some (.cells #[.int .i64 1, .int .i64 7, .string ⟨#[]⟩] 65 (0, 0)) := by
  have h1 := blk_new ((((w.alloc (.cells #[.int .i64 1, .int .i64 1, .string ⟨#[]⟩] 65 (0, 0))).alloc (.cells #[.int .i64 1, .int .i64 1, .string ⟨#[]⟩] 65 (0, 0))).alloc (.cells #[.slice (some ⟨w.heap.size, 0, none⟩) 1 1, .int .i64 2, .int .i64 1, .slice (some ⟨w.heap.size + 1, 0, none⟩) 1 1, .int .i64 9, .int .i64 (-1)] 41 (0, 0))).alloc (.cells #[.int .i64 1, .int .i64 7, .string ⟨#[]⟩] 65 (0, 0))) (.cells #[.int .i64 1, .int .i64 7, .string ⟨#[]⟩] 65 (0, 0)); rw [World.size_alloc, World.size_alloc, World.size_alloc, World.size_alloc] at h1; rw [← hW1]; exact blk_alloc (blk_alloc (h1) _) _
 have k5 : W1.heap[w.heap.size + 1 + 1 + 1 + 1 + 1]? = some (.cells #[.slice (some ⟨w.heap.size + 1 + 1 + 1, 0, none⟩) 1 1, .int .i64 5, .int .i64 1, .slice (some ⟨w.heap.size + 1 + 1 + 1 + 1, 0, none⟩) 1 1, .int .i64 12, .int .i64 (-1)] 41 (0, 0)) := by
  have h1 := blk_new (((((w.alloc (.cells #[.int .i64 1, .int .i64 1, .string ⟨#[]⟩] 65 (0, 0))).alloc (.cells #[.int .i64 1, .int .i64 1, .string ⟨#[]⟩] 65 (0, 0))).alloc (.cells #[.slice (some ⟨w.heap.size, 0, none⟩) 1 1, .int .i64 2, .int .i64 1, .slice (some ⟨w.heap.size + 1, 0, none⟩) 1 1, .int .i64 9, .int .i64 (-1)] 41 (0, 0))).alloc (.cells #[.int .i64 1, .int .i64 7, .string ⟨#[]⟩] 65 (0, 0))).alloc (.cells #[.int .i64 1, .int .i64 7, .string ⟨#[]⟩] 65 (0, 0))) (.cells #[.slice (some ⟨w.heap.size + 1 + 1 + 1, 0, none⟩) 1 1, .int .i64 5, .int .i64 1, .slice (some ⟨w.heap.size + 1 + 1 + 1 + 1, 0, none⟩) 1 1, .int .i64 12, .int .i64 (-1)] 41 (0, 0)); rw [World.size_alloc, World.size_alloc, World.size_alloc, World.size_alloc, World.size_alloc] at h1; rw [← hW1]; exact blk_alloc (h1) _
 have k6 : W1.heap[w.heap.size + 1 + 1 + 1 + 1 + 1 + 1]? = some (.cells #[.int .i64 1, .int .i64 1, .string ⟨#[]⟩] 68 (0, 0)) := by
  have h1 := blk_new ((((((w.alloc (.cells #[.int .i64 1, .int .i64 1, .string ⟨#[]⟩] 65 (0, 0))).alloc (.cells #[.int .i64 1, .int .i64 1, .string ⟨#[]⟩] 65 (0, 0))).alloc (.cells #[.slice (some ⟨w.heap.size, 0, none⟩) 1 1, .int .i64 2, .int .i64 1, .slice (some ⟨w.heap.size + 1, 0, none⟩) 1 1, .int .i64 9, .int .i64 (-1)] 41 (0, 0))).alloc (.cells #[.int .i64 1, .int .i64 7, .string ⟨#[]⟩] 65 (0, 0))).alloc (.cells #[.int .i64 1, .int .i64 7, .string ⟨#[]⟩] 65 (0, 0))).alloc (.cells #[.slice (some ⟨w.heap.size + 1 + 1 + 1, 0, none⟩) 1 1, .int .i64 5, .int .i64 1, .slice (some ⟨w.heap.size + 1 + 1 + 1 + 1, 0, none⟩) 1 1, .int .i64 12, .int .i64 (-1)] 41 (0, 0))) (.cells #[.int .i64 1, .int .i64 1, .string ⟨#[]⟩] 68 (0, 0)); rw [World.size_alloc, World.size_alloc, World.size_alloc, World.size_alloc, World.size_alloc, World.size_alloc] at h1; rw [← hW1]; exact h1
 rw [hW1]; have r1 : ∀ (W2 : World) (b : Nat) (v : Rw.Vl), W2.heap[b]? = some (.cells #[.int .i64 v.f0, .int .i64 v.f1, .string v.f2] 65 (0, 0)) → Kd.C kV W2 (some ⟨b, 0, none⟩) 1 [v] := fun W2 b v h => by
  refine C_lit (d := kV) (ps := [] ++ [v]) (inner := [] ++ [.int .i64 v.f0, .int .i64 v.f1, .string v.f2]) rfl h rfl rfl zq34 (Reps.snoc (ps := []) (p := v) (Reps.none (kV.K W2) kV.sz) (k65_mk W2 v) rfl)
 have hC : Kd.C kE W1 (some ⟨w.heap.size + 1 + 1, 0, none⟩) 2 [e1, a2] :=
  C_lit (d := kE) (ps := [] ++ [e1] ++ [a2]) (inner := [] ++ [.slice (some ⟨w.heap.size, 0, none⟩) 1 1, .int .i64 2, .int .i64 1] ++ [.slice (some ⟨w.heap.size + 1, 0, none⟩) 1 1, .int .i64 9, .int .i64 (-1)]) rfl k2 rfl rfl zq34
   (((Reps.none (kE.K W1) kE.sz).snoc (p := e1) (k41_mk W1 e1 (Nat.le_refl 1) (r1 W1 _ v1 k0)) rfl).snoc (p := a2) (k41_mk W1 a2 (Nat.le_refl 1) (r1 W1 _ v1 k1)) rfl)
 have hD : Kd.C kE W1 (some ⟨w.heap.size + 1 + 1 + 1 + 1 + 1, 0, none⟩) 2 [b1, b2] :=
  C_lit (d := kE) (ps := [] ++ [b1] ++ [b2]) (inner := [] ++ [.slice (some ⟨w.heap.size + 1 + 1 + 1, 0, none⟩) 1 1, .int .i64 5, .int .i64 1] ++ [.slice (some ⟨w.heap.size + 1 + 1 + 1 + 1, 0, none⟩) 1 1, .int .i64 12, .int .i64 (-1)]) rfl k5 rfl rfl zq34
   (((Reps.none (kE.K W1) kE.sz).snoc (p := b1) (k41_mk W1 b1 (Nat.le_refl 1) (r1 W1 _ v7 k3)) rfl).snoc (p := b2) (k41_mk W1 b2 (Nat.le_refl 1) (r1 W1 _ v7 k4)) rfl)
 have hX : Kd.C kO W1 (some ⟨w.heap.size + 1 + 1 + 1 + 1 + 1 + 1, 0, none⟩) 1 jx1 :=
  C_lit (d := kO) (ps := [] ++ [(⟨1, 1, ⟨#[]⟩⟩ : Op8)]) (inner := [] ++ [.int .i64 1, .int .i64 1, .string ⟨#[]⟩]) rfl k6 rfl rfl zq34
   ((Reps.none (kO.K W1) kO.sz).snoc (p := ⟨1, 1, ⟨#[]⟩⟩) (k68_mk W1 _) rfl)
 have HC := Lib.hid hC; have HD := Lib.hid hD; have HB1 := Lib.hid hbW1; have FC := Lib.hid (pairs_any (some ⟨w.heap.size + 1 + 1, 0, none⟩) (some ⟨w.heap.size + 1 + 1 + 1 + 1 + 1, 0, none⟩) (some ⟨w.heap.size + 1 + 1 + 1 + 1 + 1 + 1, 0, none⟩) 2 2 1 [e1, a2] [b1, b2] jx1 W1 hC hD hX (Nat.le_refl 1) (by rfl) (by rfl) (by rfl)); rw [factJ1] at FC; clear hC hD hX r1 k0 k1 k2 k3 k4 k5 k6 hW1 hsW1 hbW1; refine FC.out.mono ?_; rintro e w2 ⟨Aa, ca, rfl, hRa, hca, hb2⟩; have HRA := Lib.hid hRa; have HB2 := Lib.hid (HB1.out.trans (hb2.mono HB1.out.size)); have HC2 := Lib.hid (Kd.C_below HC.out hb2); have HD2 := Lib.hid (Kd.C_below HD.out hb2); clear hRa hb2 hca HB1 HC HD FC
 go_wp2_with (go_at_call 29; refine hold_intro ?_)
 refine ⟨?_⟩; obtain ⟨W3, hW3⟩ : ∃ W3, w2.alloc (.cells #[.int .i64 3, .int .i64 0, .string ⟨#[]⟩, .int .i64 3, .int .i64 1, .string ⟨#[]⟩, .int .i64 13, .int .i64 0, .string ⟨#[]⟩] 68 (0, 0)) = W3 := ⟨_, rfl⟩
 have hsW3 : W3.heap.size = w2.heap.size + 1 := by rw [← hW3]; simp
 have hbW3 : Below w2.heap.size w2 W3 := by rw [← hW3]; exact below_alloc (Below.refl _ w2) _
 have k0 : W3.heap[w2.heap.size]? = some (.cells #[.int .i64 3, .int .i64 0, .string ⟨#[]⟩, .int .i64 3, .int .i64 1, .string ⟨#[]⟩, .int .i64 13, .int .i64 0, .string ⟨#[]⟩] 68 (0, 0)) := by
  have h1 := blk_new (w2) (.cells #[.int .i64 3, .int .i64 0, .string ⟨#[]⟩, .int .i64 3, .int .i64 1, .string ⟨#[]⟩, .int .i64 13, .int .i64 0, .string ⟨#[]⟩] 68 (0, 0)); rw [← hW3]; exact h1
 rw [hW3]; have hX : Kd.C kO W3 (some ⟨w2.heap.size, 0, none⟩) 3 jx2 :=
  C_lit (d := kO) (ps := [] ++ [(⟨3, 0, ⟨#[]⟩⟩ : Op8)] ++ [⟨3, 1, ⟨#[]⟩⟩] ++ [⟨13, 0, ⟨#[]⟩⟩]) (inner := [] ++ [.int .i64 3, .int .i64 0, .string ⟨#[]⟩] ++ [.int .i64 3, .int .i64 1, .string ⟨#[]⟩] ++ [.int .i64 13, .int .i64 0, .string ⟨#[]⟩]) rfl k0 rfl rfl zq34
   ((((Reps.none (kO.K W3) kO.sz).snoc (p := ⟨3, 0, ⟨#[]⟩⟩) (k68_mk W3 _) rfl).snoc (p := ⟨3, 1, ⟨#[]⟩⟩) (k68_mk W3 _) rfl).snoc (p := ⟨13, 0, ⟨#[]⟩⟩) (k68_mk W3 _) rfl)
 have HB3 := Lib.hid hbW3; have FD := Lib.hid (pairs_any (some ⟨w.heap.size + 1 + 1, 0, none⟩) (some ⟨w.heap.size + 1 + 1 + 1 + 1 + 1, 0, none⟩) (some ⟨w2.heap.size, 0, none⟩) 2 2 3 [e1, a2] [b1, b2] jx2 W3 (Kd.C_below HC2.out hbW3) (Kd.C_below HD2.out hbW3) hX (Nat.le_refl 3) (by rfl) (by rfl) (by rfl)); rw [factJ2] at FD; clear hX k0 hW3 hsW3 hbW3 HC2 HD2; refine FD.out.mono ?_; rintro e w4 ⟨Ab, cb, rfl, hRb, hcb, hb4⟩; have HB4 := Lib.hid ((HB2.out.trans (HB3.out.mono HB2.out.size)).trans (hb4.mono (Nat.le_trans HB2.out.size HB3.out.size))); have hra := Kd.C_below (Kd.C_below HRA.out HB3.out) hb4; obtain ⟨ad, Ay, cy, ea, y0, y1, y2, y3, y4⟩ := at_T41 hra (0 : Int) zq34 zq34; obtain ⟨ad2, Az, cz, eb, z0, z1, z2, z3, z4⟩ := at_T41 hra (1 : Int) zq34 zq34; cases ea; cases eb; have Y0 : w4.cell? ad = some (.slice Ay 2 cy) := by simpa [Addr.add, rd_T41, p1] using y0
 have Y1 : w4.cell? ⟨ad.block, ad.off + 1, none⟩ = some (.int .i64 5) := by simpa [Addr.add, rd_T41, p1] using y1
 have Z1 : w4.cell? ⟨ad.block, ad.off + 3 + 1, none⟩ = some (.int .i64 9) := by simpa [Addr.add, rd_T41, p2] using z1
 clear y0 y1 y2 y3 y4 z0 z1 z2 z3 z4 hra HRA HB2 HB3 hb4 hRb hcb FD; have e0 : ad.add 0 = ad := add0 ad; go_wp2; go_ret; exact ⟨rfl, HB4.out⟩
end Go.Proofs.YtmkgecapkeojaaaGreat.Eg
end
section
namespace Go.Proofs.YtmkgecapkeojaaaGreat.Eg
open Go.Proofs.YtmkgecapkeojaaaGreat Go.Proofs.YtmkgecapkeojaaaGreat.PDa
open Go.RowKit Go.Proofs.YtmkgecapkeojaaaGreatW.PrintWords Go.Proofs.YtmkgecapkeojaaaGreatW.PrintLast Go.Proofs.YtmkgecapkeojaaaGreatW.PrintMore
open Go.Proofs.YtmkgecapkeojaaaGreat.SortM Go.Proofs.YtmkgecapkeojaaaGreat.Run Go.Proofs.YtmkgecapkeojaaaGreat.Stp Go.Proofs.YtmkgecapkeojaaaGreat.Rw
def cutJ (t : Int) : List Jp → List Jp
 | [] => []
 | x :: xs => if x.f0 ≥ t then [] else x :: cutJ t xs
def sumJ : List Jp → Int
 | [] => 0
 | x :: xs => x.f1 + sumJ xs
theorem sumJ_snoc (x : Jp) : ∀ l : List Jp, sumJ (l ++ [x]) = sumJ l + x.f1
 | [] => by simp [sumJ]
 | y :: ys => by rw [List.cons_append, sumJ, sumJ, sumJ_snoc x ys]; omega
def endJ (t s : Int) : List Jp := if s ≠ 0 then [⟨t, -s⟩] else []
def aheadV (t : Int) (f : List Jp) : List Jp × Int := if mayJ f = true then (if t ≥ 1125899906842624 then (f, 0) else toldJ (cutJ t f ++ endJ t (sumJ (cutJ t f)))) else ([], 2)
theorem Ahead_calls (A0 : Option Addr) (c0 : Nat) (f : List Jp) (t : Int) (w : World) (hr0 : Kd.C kJ w A0 f.length f) (hc0 : f.length ≤ c0) :
  Calls Tryz.prog 76 #[.slice A0 f.length c0, .int .i64 t] w fun e w' => ∃ v, e = .returned (.tuple #[v, .int .i64 (aheadV t f).2]) ∧ Kd.R kJ tJ w' w.heap.size (fun _ => True) v (aheadV t f).1 ∧ Below w.heap.size w w' := by
 have hu43 := Tryz.underlying43; have MF := Lib.hid (may_any A0 c0 f w hr0 hc0); have HR0 := Lib.hid hr0; have HC0 := Lib.hid hc0; clear hr0 hc0; cases hmf : mayJ f with
 | false =>
  rw [hmf] at MF; have HV := Lib.hid (show aheadV t f = ([], 2) by unfold aheadV; rw [hmf]; rfl); clear hmf; go_enter Tryz.func76, Tryz.ntmps76
  go_wp2_with fail
  refine MF.out.mono ?_; rintro e w1 ⟨rfl, hb⟩; go_wp2; go_ret2; exact ⟨.slice none 0 0, by rw [HV.out]; rfl, by rw [HV.out]; exact Kd.R_nil _ _ _ _ _, hb⟩
 | true =>
 rw [hmf] at MF; obtain ⟨lf, pf, _⟩ := mayJ_parts hmf; have IF := Lib.hid (show In50 f from fun j hj => ⟨(pf j hj).2.1, okFair (pf j hj).2.2.2⟩); obtain ⟨o, ho⟩ : ∃ o, aheadV t f = o := ⟨_, rfl⟩
 rw [ho]; unfold aheadV at ho; rw [if_pos hmf] at ho
 by_cases ht : t ≥ 1125899906842624
 ·have q : decide (t ≥ 1125899906842624) = true := decide_eq_true ht
  rw [if_pos ht] at ho; have HO := Lib.hid ho; have LF := Lib.hid lf; clear ho hmf ht pf lf; go_enter Tryz.func76, Tryz.ntmps76
  go_wp2_with fail
  refine MF.out.mono ?_; rintro e w1 ⟨rfl, hb⟩; have HB := Lib.hid hb; have CL := Lib.hid (clone_Jump.calls A0 c0 f f w1 (Kd.C_below HR0.out hb) HC0.out (if_pos (by have := LF.out; omega))); clear hb
  go_wp2_with fail
  refine CL.out.mono ?_; rintro e w2 ⟨v, rfl, hR, hb⟩; have HR2 := Lib.hid (Kd.R_lower hR HB.out.size); have HB2 := Lib.hid (HB.out.trans (hb.mono HB.out.size)); clear hR hb; go_wp2; go_ret2; exact ⟨v, by rw [← HO.out]; rfl, by rw [← HO.out]; exact HR2.out, HB2.out⟩
 ·have q : decide (t ≥ 1125899906842624) = false := decide_eq_false ht
  rw [if_neg ht] at ho; obtain ⟨c, hc⟩ : ∃ c, cutJ t f = c := ⟨_, rfl⟩
  rw [hc] at ho; have HO := Lib.hid ho; have HCC := Lib.hid hc; obtain ⟨n, hn⟩ : ∃ n, f.length = n := ⟨_, rfl⟩
  rw [hn] at HR0 HC0 lf MF ⊢; have HN := Lib.hid hn; have LF := Lib.hid lf; clear ho hc hmf ht pf hn; go_enter Tryz.func76, Tryz.ntmps76
  go_wp2_with fail
  refine MF.out.mono ?_; rintro e w1 ⟨rfl, hb⟩; have HB2 := Lib.hid hb; clear hb MF
  go_wp2_with (first | ((with_reducible refine gate_dst (N := 17) rfl ?_); refine Kd.R_lit kJ _ 85 ?hg (N := 17) ?hd (xs := ([] : List Jp)) (inner := []) (ok := fun _ => True) (okp := fun _ => True) ?hr ?hp (fun _ hk => hk) trivial (Below.refl _ _) (Nat.le_refl _) zq30 ?_; (case hd => rfl); (case hg => rfl); (case hr => first | (go_simp; done) | (go_simp; rfl)); (case hp => exact (Reps.none _ _)); intro v22 w3 ho3 hb3 hg_ hnew_; have HO3 := Lib.hid (Kd.R_lower ho3 HB2.out.size); have HB3 := Lib.hid (HB2.out.trans (hb3.mono HB2.out.size)); clear hg_ hnew_ hb3 ho3))
  go_loopw [6, 7, 20] (fun u6 u7 u20 wr => ∃ (i : Nat) (s : Int), i ≤ n ∧ u20 = .int .i64 (i : Int) ∧ u7 = .int .i64 s ∧ (-(1048576 * (i : Int)) ≤ s ∧ s ≤ 1048576 * (i : Int)) ∧ Aside0 (sumJ (f.take i) = s) ∧ Aside0 (Kd.R kJ tJ wr w.heap.size (fun _ => True) u6 (f.take i)) ∧ Aside0 (Below w.heap.size w wr) ∧ Aside0 (f.take i ++ cutJ t (f.drop i) = c)) (fun u6 u7 u20 wr => n - (intOf u20).toNat)
  case atStart => exact ⟨0, 0, Nat.zero_le _, rfl, rfl, by omega, ⟨rfl⟩, ⟨HO3.out⟩, ⟨HB3.out⟩, ⟨HCC.out⟩⟩
  case round =>
   obtain ⟨i, s, hi, rfl, rfl, hs, HS, HR, HB, HE⟩ := hrel
   by_cases ci : i < n
   case neg =>
    obtain rfl : i = n := by omega
    have HCT := Lib.hid (show f.take i = c by have h := HE.out; rw [List.drop_eq_nil_of_le (by have := HN.out; omega), cutJ, List.append_nil] at h; exact h); have HRC := Lib.hid (show Kd.R kJ tJ wr w.heap.size (fun _ => True) u6 c by rw [← HCT.out]; exact HR.out); have HLC := Lib.hid (show c.length ≤ 1024 by rw [← HCT.out, List.length_take]; have := LF.out; omega); have HSC := Lib.hid (show sumJ c = s by rw [← HCT.out]; exact HS.out)
    by_cases hs0 : s = 0
    ·have qs : (s != 0) = false := by simpa using hs0
     have HV := Lib.hid (show toldJ c = o by have h := HO.out; rw [HSC.out] at h; unfold endJ at h; rw [if_neg (fun h2 => h2 hs0), List.append_nil] at h; exact h); have TC := Lib.hid (step_told.calls (c.length + 1) (fun _ => True) _ c _ _ w wr HB.out HRC.out (told_f c)); rw [HV.out] at TC; clear hs0
     go_wp2_with (go_at_call 115; (with_reducible refine TC.out.mono ?_); rintro e w5 ⟨v5, rfl, hR, hb5, _⟩; have HR5 := Lib.hid hR; have HB5 := Lib.hid hb5; clear hR hb5)
     go_ret2; exact ⟨v5, rfl, Kd.R_mono HR5.out (fun _ _ => trivial), HB5.out⟩
    ·have qs : (s != 0) = true := by simpa using hs0
     have HV := Lib.hid (show toldJ (c ++ [⟨t, -s⟩]) = o by have h := HO.out; rw [HSC.out] at h; unfold endJ at h; rw [if_pos hs0] at h; exact h); have ng : IntKind.i64.wrap (-s) = -s := by rw [IntKind.wrap_i64]; omega
     clear hs0
     go_wp2_with (at_builtin; (refine Kd.R_append kJ (w0 := w) w.heap.size rfl _ _ 43 85 (.agg #[(.int .i64 0), (.int .i64 0)]) 16 rfl hu43 info85 rfl zq34 zq4 u6 c ⟨t, -s⟩ [.int .i64 t, .int .i64 (-s)] (fun _ => True) (fun _ => False) rfl (by first | rfl | (rw [World.size_alloc]; rfl)) ?aP (fun _ h => h.elim) (fun _ _ => trivial) ?aO ?aB ?aS ?aL ?_))
     case aP => exact k85_mkM _ _ _ ⟨t, -s⟩
     case aO => exact HRC.out
     case aB => exact HB.out
     case aS => exact HB.out.size
     case aL => have := HLC.out; omega
     intro v1 w7 ho hb hg hat; have TC := Lib.hid (step_told.calls ((c ++ [(⟨t, -s⟩ : Jp)]).length + 1) (fun _ => True) _ (c ++ [(⟨t, -s⟩ : Jp)]) _ _ w w7 hb ho (told_f (c ++ [(⟨t, -s⟩ : Jp)]))); rw [HV.out] at TC; clear ho hb hg hat
     go_wp2_with (go_at_call 115; (with_reducible refine TC.out.mono ?_); rintro e w5 ⟨v5, rfl, hR, hb5, _⟩; have HR5 := Lib.hid hR; have HB5 := Lib.hid hb5; clear hR hb5)
     go_ret2; exact ⟨v5, rfl, Kd.R_mono HR5.out (fun _ _ => trivial), HB5.out⟩
   case pos =>
    obtain ⟨x, hx⟩ : ∃ x, f[i]'(by have := HN.out; omega) = x := ⟨_, rfl⟩
    obtain ⟨ad, e1, x0, x1⟩ := at_T85 (Kd.C_below HR0.out HB.out) (i : Int) zq4 zq4; rw [rdJt f i (by have := HN.out; omega), Int.toNat_natCast, hx] at x0 x1; cases e1; have qi : (i : Int) < (n : Int) := by omega
    have hfd : f.drop i = x :: f.drop (i + 1) := by rw [← hx]; exact List.drop_eq_getElem_cons _
    have hft : f.take (i + 1) = f.take i ++ [x] := by rw [← hx]; exact (List.take_append_getElem (by have := HN.out; omega)).symm
    have hxm : x ∈ f := by rw [← hx]; exact List.getElem_mem _
    have hxb := (IF.out x hxm).2; have hn := LF.out
    by_cases cx : x.f0 ≥ t
    ·have qx : decide (x.f0 ≥ t) = true := decide_eq_true cx
     have HCT := Lib.hid (show f.take i = c by have h := HE.out; rw [hfd, cutJ, if_pos cx, List.append_nil] at h; exact h); obtain ⟨wq, hwq⟩ : ∃ wq, wr.alloc (.cells #[.int .i64 x.f0, .int .i64 x.f1] 85 (0, 0)) = wq := ⟨_, rfl⟩
     have HWQ := Lib.hid hwq; have HBQ := Lib.hid (show Below w.heap.size w wq by rw [← hwq]; exact below_alloc HB.out _); have HRC := Lib.hid (show Kd.R kJ tJ wq w.heap.size (fun _ => True) u6 c by rw [← hwq, ← HCT.out]; exact Kd.R_below HR.out (below_alloc (Below.refl _ _) _)); have HLC := Lib.hid (show c.length ≤ 1024 by rw [← HCT.out, List.length_take]; have := LF.out; omega); clear hwq hx hfd hft hxm cx HR HB HE
     go_upto_if 38 with fail
     rw [HWQ.out]; have HSC := Lib.hid (show sumJ c = s by rw [← HCT.out]; exact HS.out)
     by_cases hs0 : s = 0
     ·have qs : (s != 0) = false := by simpa using hs0
      have HV := Lib.hid (show toldJ c = o by have h := HO.out; rw [HSC.out] at h; unfold endJ at h; rw [if_neg (fun h2 => h2 hs0), List.append_nil] at h; exact h); have TC := Lib.hid (step_told.calls (c.length + 1) (fun _ => True) _ c _ _ w wq HBQ.out HRC.out (told_f c)); rw [HV.out] at TC; clear hs0
      go_wp2_with (go_at_call 115; (with_reducible refine TC.out.mono ?_); rintro e w5 ⟨v5, rfl, hR, hb5, _⟩; have HR5 := Lib.hid hR; have HB5 := Lib.hid hb5; clear hR hb5)
      go_ret2; exact ⟨v5, rfl, Kd.R_mono HR5.out (fun _ _ => trivial), HB5.out⟩
     ·have qs : (s != 0) = true := by simpa using hs0
      have HV := Lib.hid (show toldJ (c ++ [⟨t, -s⟩]) = o by have h := HO.out; rw [HSC.out] at h; unfold endJ at h; rw [if_pos hs0] at h; exact h); have ng : IntKind.i64.wrap (-s) = -s := by rw [IntKind.wrap_i64]; omega
      clear hs0
      go_wp2_with (at_builtin; (refine Kd.R_append kJ (w0 := w) w.heap.size rfl _ _ 43 85 (.agg #[(.int .i64 0), (.int .i64 0)]) 16 rfl hu43 info85 rfl zq34 zq4 u6 c ⟨t, -s⟩ [.int .i64 t, .int .i64 (-s)] (fun _ => True) (fun _ => False) rfl (by first | rfl | (rw [World.size_alloc]; rfl)) ?aP (fun _ h => h.elim) (fun _ _ => trivial) ?aO ?aB ?aS ?aL ?_))
      case aP => exact k85_mkM _ _ _ ⟨t, -s⟩
      case aO => exact HRC.out
      case aB => exact HBQ.out
      case aS => exact HBQ.out.size
      case aL => have := HLC.out; omega
      intro v1 w7 ho hb hg hat; have TC := Lib.hid (step_told.calls ((c ++ [(⟨t, -s⟩ : Jp)]).length + 1) (fun _ => True) _ (c ++ [(⟨t, -s⟩ : Jp)]) _ _ w w7 hb ho (told_f (c ++ [(⟨t, -s⟩ : Jp)]))); rw [HV.out] at TC; clear ho hb hg hat
      go_wp2_with (go_at_call 115; (with_reducible refine TC.out.mono ?_); rintro e w5 ⟨v5, rfl, hR, hb5, _⟩; have HR5 := Lib.hid hR; have HB5 := Lib.hid hb5; clear hR hb5)
      go_ret2; exact ⟨v5, rfl, Kd.R_mono HR5.out (fun _ _ => trivial), HB5.out⟩
    ·have qx : decide (x.f0 ≥ t) = false := decide_eq_false cx
     have HE2 := Lib.hid (show f.take (i + 1) ++ cutJ t (f.drop (i + 1)) = c by have h := HE.out; rw [hfd, cutJ, if_neg cx] at h; rw [hft, List.append_assoc]; exact h); have HS2 := Lib.hid (show sumJ (f.take (i + 1)) = s + x.f1 by rw [hft, sumJ_snoc, HS.out]); have HFT := Lib.hid hft; have HLT := Lib.hid (show (f.take i).length ≤ 1024 by rw [List.length_take]; omega); clear hx hfd hft hxm cx HE HS
     go_wp2_with (at_builtin; (refine Kd.R_append kJ (w0 := w) w.heap.size rfl _ _ 43 85 (.agg #[(.int .i64 0), (.int .i64 0)]) 16 rfl hu43 info85 rfl zq34 zq4 u6 (f.take i) x [.int .i64 x.f0, .int .i64 x.f1] (fun _ => True) (fun _ => False) rfl (by first | rfl | (rw [World.size_alloc]; rfl)) ?aP (fun _ h => h.elim) (fun _ _ => trivial) ?aO ?aB ?aS ?aL ?_))
     case aP => exact k85_mkM _ _ _ x
     case aO => exact Kd.R_below HR.out (below_alloc (Below.refl _ _) _)
     case aB => exact below_alloc HB.out _
     case aS => exact (below_alloc HB.out _).size
     case aL => have := HLT.out; omega
     intro v1 w7 ho hb hg hat; have z1 : w7.cell? ⟨wr.heap.size, 1, none⟩ = some (.int .i64 x.f1) := (World.cell?_of_block (w := wr.alloc (.cells #[.int .i64 x.f0, .int .i64 x.f1] 85 (0, 0))) (a := ⟨wr.heap.size, 1, none⟩) (hg.block wr.heap.size (by rw [World.size_alloc]; omega) (fun e => by have := (own_ltR HR.out e.symm).2; omega))).trans ((blk_cell (blk_new wr _) 1).trans rfl); have HO6 := Lib.hid (show Kd.R kJ tJ w7 w.heap.size (fun _ => True) v1 (f.take (i + 1)) by rw [HFT.out]; exact ho); have HB6 := Lib.hid hb; have qa : s + x.f1 ≤ 9223372036854775807 := by omega
     have qb : -9223372036854775808 ≤ s + x.f1 := by omega
     have HBD := Lib.hid (show -(1048576 * ((i + 1 : Nat) : Int)) ≤ s + x.f1 ∧ s + x.f1 ≤ 1048576 * ((i + 1 : Nat) : Int) from ⟨by omega, by omega⟩); clear ho hb hg hat x0 x1 hxb hs
     go_wp2_with fail
     go_roundw
     case rel => exact ⟨i + 1, s + x.f1, by omega, by go_num, rfl, HBD.out, ⟨HS2.out⟩, ⟨HO6.out⟩, ⟨HB6.out⟩, ⟨HE2.out⟩⟩
     case measure => simp [intOf]; omega
theorem aheadV_len (t : Int) (f : List Jp) : (aheadV t f).1.length ≤ 1000000000 := by
 unfold aheadV
 split
 ·rename_i h
  have := (mayJ_parts h).1
  split
  ·show f.length ≤ _; omega
  ·unfold toldJ
   split
   ·rename_i h2
    have := (mayJ_parts h2).1
    show (cutJ t f ++ endJ t (sumJ (cutJ t f))).length ≤ _; omega
   ·exact Nat.zero_le _
 ·exact Nat.zero_le _
def allP (g : List Jp → List Jp × Int) (l : List EdP) : List EdP × Int := if mayE l = true then mapP g l else ([], 2)
theorem ahead1_calls (A : Option Addr) (c b : Nat) (f : List Jp) (t : Int) (w : World) (hR : Kd.R kJ tJ w 0 (fun _ => True) (.slice A f.length c) f) (hb : w.cell? ⟨b, 0, none⟩ = some (.int .i64 t)) :
  Calls Tryz.prog 75 #[.slice A f.length c, .pointer (some ⟨b, 0, none⟩)] w fun e w' => ∃ v, e = .returned (.tuple #[v, .int .i64 (aheadV t f).2]) ∧ Kd.R kJ tJ w' 0 (fun _ => True) v (aheadV t f).1 ∧ Below w.heap.size w w' := by
 have AC := Lib.hid (Ahead_calls A c f t w (Kd.R_reads' hR).2.2 (Kd.R_reads' hR).2.1); clear hR; obtain ⟨n, hn⟩ : ∃ n, f.length = n := ⟨_, rfl⟩
 rw [hn] at AC ⊢; obtain ⟨o, ho⟩ : ∃ o, aheadV t f = o := ⟨_, rfl⟩
 rw [ho] at AC ⊢; clear hn ho; go_enter Tryz.func75, Tryz.ntmps75
 go_wp2_with fail
 refine AC.out.mono ?_; rintro e w1 ⟨v, rfl, hR, hb⟩; have HR := Lib.hid (Kd.R_lower hR (Nat.zero_le _)); have HB := Lib.hid hb; clear hR hb; go_wp2; go_ret2; exact ⟨v, rfl, HR.out, HB.out⟩
theorem all_calls (g : List Jp → List Jp × Int) (fn : Nat) (cap : Array Value) (A0 : Option Addr) (c0 : Nat) (l : List EdP) (w : World) (hr0 : Kd.C k41 w A0 l.length l) (hrow : ∀ e ∈ l, e.f0.length ≤ 4398046511104)
  (hfn : ∀ args w, (callFunc fn args).run Tryz.prog w = .ok (.enter fn args) w) (hg : ∀ f, (g f).1.length ≤ 1000000000)
  (hby : ∀ (A : Option Addr) (c : Nat) (f : List Jp) (W1 : World), Below w.heap.size w W1 → Kd.R kJ 85 W1 0 (fun _ => True) (.slice A f.length c) f →
   Calls Tryz.prog fn (#[.slice A f.length c] ++ cap) W1 fun e w' => ∃ v, e = .returned (.tuple #[v, .int .i64 (g f).2]) ∧ Kd.R kJ 85 w' 0 (fun _ => True) v (g f).1 ∧ Below W1.heap.size W1 w') :
  Calls Tryz.prog 74 #[.slice A0 l.length c0, .func (.func fn) #[] cap] w fun e w' => ∃ v, e = .returned (.tuple #[v, .int .i64 (allP g l).2]) ∧ Kd.R kE tE w' w.heap.size (fun _ => True) v (allP g l).1 ∧ Below w.heap.size w w' := by
 have MC := Lib.hid (May_calls A0 c0 l w hr0 hrow); have MP := Lib.hid (fun (w1 : World) (h : Below w.heap.size w w1) (hl : l.length ≤ 68719476736) => mapped_calls g fn cap A0 c0 l w1 (Kd.C_below hr0 h) hl hrow hfn hg (fun A c f W1 hW _ hR => hby A c f W1 (h.trans (hW.mono h.size)) hR)); clear hr0 hrow hfn hg hby
 cases hm : mayE l with
 | false =>
  rw [hm] at MC; have HV := Lib.hid (show allP g l = ([], 2) by unfold allP; rw [hm]; rfl); clear hm MP; go_enter Tryz.func74, Tryz.ntmps74
  go_wp2_with fail
  refine MC.out.mono ?_; rintro e w1 ⟨rfl, hb⟩; go_wp2; go_ret2; exact ⟨.slice none 0 0, by rw [HV.out]; rfl, by rw [HV.out]; exact Kd.R_nil _ _ _ _ _, hb⟩
 | true =>
  rw [hm] at MC; have HV := Lib.hid (show allP g l = mapP g l by unfold allP; rw [hm]; rfl); have HL := Lib.hid (show l.length ≤ 4096 by unfold mayE eachP at hm; rw [Bool.and_eq_true] at hm; exact of_decide_eq_true hm.1); clear hm; go_enter Tryz.func74, Tryz.ntmps74
  go_wp2_with fail
  refine MC.out.mono ?_; rintro e w1 ⟨rfl, hb⟩; have HB := Lib.hid hb; have MP2 := Lib.hid (MP.out w1 hb (by have := HL.out; omega)); clear hb MP
  go_wp2_with fail
  refine MP2.out.mono ?_; rintro e w2 ⟨v, rfl, hR, hb⟩; have HR2 := Lib.hid (Kd.R_lower hR HB.out.size); have HB2 := Lib.hid (HB.out.trans (hb.mono HB.out.size)); clear hR hb; go_wp2; go_ret2; exact ⟨v, by rw [HV.out]; rfl, by rw [HV.out]; exact HR2.out, HB2.out⟩
theorem aheadE_calls (A0 : Option Addr) (c0 : Nat) (l : List EdP) (t : Int) (w : World) (hr0 : Kd.C k41 w A0 l.length l) (hrow : ∀ e ∈ l, e.f0.length ≤ 4398046511104) :
  Calls Tryz.prog 38 #[.slice A0 l.length c0, .int .i64 t] w fun e w' => ∃ v, e = .returned (.tuple #[v, .int .i64 (allP (aheadV t) l).2]) ∧ Kd.R kE tE w' w.heap.size (fun _ => True) v (allP (aheadV t) l).1 ∧ Below w.heap.size w w' := by
 have hmf : ∀ (fn : Fn) (first cap : Array Value) (w : World), (Instr.makeFunc fn first cap).run Tryz.prog w = .ok (.func fn first cap) w := fun _ _ _ _ => rfl
 obtain ⟨w1, hw1⟩ : ∃ w1, w.alloc (.cells #[.int .i64 t] 3 (0, 0)) = w1 := ⟨_, rfl⟩
 have HB1 := Lib.hid (show Below w.heap.size w w1 by rw [← hw1]; exact below_alloc (Below.refl _ _) _); have hcell : w1.cell? ⟨w.heap.size, 0, none⟩ = some (.int .i64 t) := by rw [← hw1]; exact (blk_cell (blk_new w _) 0).trans rfl
 have AC := Lib.hid (all_calls (aheadV t) 75 #[.pointer (some ⟨w.heap.size, 0, none⟩)] A0 c0 l w1 (Kd.C_below hr0 (by rw [← hw1]; exact below_alloc (Below.refl _ _) _)) hrow (enters_of Tryz.func75 zq17 rfl) (aheadV_len t) (fun A c f W1 hW hR => ahead1_calls A c w.heap.size f t W1 hR (pw_cell_below hW hcell))); have HW := Lib.hid hw1; clear hr0 hrow hcell hw1; obtain ⟨o, ho⟩ : ∃ o, allP (aheadV t) l = o := ⟨_, rfl⟩
 rw [ho] at AC ⊢; clear ho; go_enter Tryz.func38, Tryz.ntmps38
 go_wp2_with fail
 rw [HW.out]; refine AC.out.mono ?_; rintro e w2 ⟨v, rfl, hR, hb⟩; have HR := Lib.hid (Kd.R_lower hR HB1.out.size); have HB := Lib.hid (HB1.out.trans (hb.mono HB1.out.size)); clear hR hb; go_wp2; go_ret2; exact ⟨v, rfl, HR.out, HB.out⟩
end Go.Proofs.YtmkgecapkeojaaaGreat.Eg
end
section
namespace Go.Proofs.YtmkgecapkeojaaaGreat.Eg
open Go.Proofs.YtmkgecapkeojaaaGreat Go.Proofs.YtmkgecapkeojaaaGreat.PDa
open Go.RowKit Go.Proofs.YtmkgecapkeojaaaGreatW.PrintWords Go.Proofs.YtmkgecapkeojaaaGreat.Stp Go.Proofs.YtmkgecapkeojaaaGreat.Rw Go.Proofs.YtmkgecapkeojaaaGreat.Cmp Go.Proofs.YtmkgecapkeojaaaGreat.Canon
def cc (t u : Int) : Int := if t ≥ 1125899906842624 ∨ u < t then 1 else 0
theorem cc_sq (t u : Int) : cc t u * cc t u = cc t u := by unfold cc; split <;> rfl
theorem cut_val (t : Int) : ∀ f : List Jp, Rise f → (∀ u, u < t → valI (cutJ t f) u = valI f u) ∧ ∀ u, t ≤ u → valI (cutJ t f) u = sumJ (cutJ t f)
 | [], _ => ⟨fun _ _ => rfl, fun _ _ => rfl⟩
 | x :: xs, h => by
  have h1 := List.pairwise_cons.1 h; obtain ⟨i1, i2⟩ := cut_val t xs h1.2; rw [cutJ]
  by_cases c : x.f0 ≥ t
  ·rw [if_pos c]
   refine ⟨fun u hu => ?_, fun _ _ => rfl⟩; rw [valI_low (f := x :: xs) (fun j hj => ?_)]
   ·rfl
   ·rcases List.mem_cons.1 hj with rfl | hj
    ·omega
    ·have := h1.1 j hj; omega
  ·rw [if_neg c]
   refine ⟨fun u hu => by rw [valI, valI, i1 u hu], fun u hu => ?_⟩; rw [valI, sumJ, i2 u hu, if_pos (by omega)]
theorem ahead_val {t : Int} {f h : List Jp} (hh : aheadV t f = (h, 0)) : mayJ f = true ∧ mayJ h = true ∧ ∀ u, valI h u = cc t u * valI f u := by
 unfold aheadV at hh
 by_cases hm : mayJ f = true
 ·rw [if_pos hm] at hh
  by_cases ht : t ≥ 1125899906842624
  ·rw [if_pos ht] at hh
   obtain rfl : f = h := congrArg Prod.fst hh; exact ⟨hm, hm, fun u => by unfold cc; rw [if_pos (.inl ht), Int.one_mul]⟩
  ·rw [if_neg ht] at hh
   unfold toldJ at hh
   by_cases h2 : mayJ (cutJ t f ++ endJ t (sumJ (cutJ t f))) = true
   ·rw [if_pos h2] at hh
    obtain rfl : cutJ t f ++ endJ t (sumJ (cutJ t f)) = h := congrArg Prod.fst hh; refine ⟨hm, h2, fun u => ?_⟩; obtain ⟨c1, c2⟩ := cut_val t f (mayJ_parts hm).2.2; have e : valI (endJ t (sumJ (cutJ t f))) u = if t ≤ u then -(sumJ (cutJ t f)) else 0 := by
     unfold endJ
     split
     ·simp [valI]
     ·rename_i c
      have : sumJ (cutJ t f) = 0 := by simpa using c
      rw [this]; simp [valI]
    rw [valI_append, e]
    by_cases c : u < t
    ·have k1 : cc t u = 1 := by unfold cc; exact if_pos (.inr c)
     rw [k1, c1 u c, if_neg (show ¬ t ≤ u by omega)]; omega
    ·have k0 : cc t u = 0 := by unfold cc; exact if_neg (by omega)
     rw [k0, c2 u (by omega), if_pos (show t ≤ u by omega)]; omega
   ·rw [if_neg h2] at hh; cases hh
 ·rw [if_neg hm] at hh; cases hh
theorem mapR_ok (g : List Jp → List Jp × Int) : ∀ (gs : List Gr) (out : List EdP), (mapR g out gs).2 = 0 → (∀ x ∈ gs, (g x.2).2 = 0) ∧ (mapR g out gs).1 = out ++ flatG (gs.map fun x => (x.1, (g x.2).1)) ∧ (out.length ≤ 4096 → (mapR g out gs).1.length ≤ 4096)
 | [], out, _ => ⟨fun x hx => (by cases hx), by simp [mapR, flatG], fun h => h⟩
 | x :: xs, out, h => by
  rw [mapR] at h ⊢
  by_cases c : (g x.2).2 = 0
  ·rw [if_neg (by simpa using c)] at h ⊢
   by_cases c2 : 4096 < (putP out x.1 (g x.2).1).length
   ·rw [if_pos c2] at h; cases h
   ·rw [if_neg c2] at h ⊢
    obtain ⟨h1, h2, h3⟩ := mapR_ok g xs _ h; have hp : putP out x.1 (g x.2).1 = out ++ putP [] x.1 (g x.2).1 := by simp [putP]
    refine ⟨fun y hy => ?_, by rw [h2, List.map_cons, flatG_cons, hp, List.append_assoc], fun _ => h3 (by omega)⟩
    rcases List.mem_cons.1 hy with rfl | hy
    ·exact c
    ·exact h1 y hy
  ·rw [if_pos (by simpa using c)] at h
   exact absurd h c
theorem mapR_err (g : List Jp → List Jp × Int) : ∀ (gs : List Gr) (out : List EdP), (mapR g out gs).2 ≠ 0 → (mapR g out gs).1 = []
 | [], out, h => absurd rfl h
 | x :: xs, out, h => by
  rw [mapR] at h ⊢
  split
  ·rfl
  ·rename_i c
   rw [if_neg c] at h
   split
   ·rfl
   ·rename_i c2
    rw [if_neg c2] at h; exact mapR_err g xs _ h
theorem ahead_parts {t : Int} {l b : List EdP} (h : allP (aheadV t) l = (b, 0)) : MayP l ∧ IsC b ∧ (∀ φ u, Wt φ u b = cc t u * Wt φ u l) ∧ (∀ e ∈ b, ∃ e' ∈ l, e'.f0 = e.f0) ∧ b.length ≤ 4096 := by
 unfold allP at h
 by_cases c : mayE l = true
 ·rw [if_pos c] at h
  have hm := (mayE_iff l).1 c; unfold mapP at h; obtain ⟨h1, h2, h3⟩ := mapR_ok (aheadV t) (runsP l) [] (by rw [h]); rw [h, List.nil_append] at h2; rw [h] at h3; have h2 : b = flatG ((runsP l).map fun x => (x.1, (aheadV t x.2).1)) := h2; have hv := fun x (hx : x ∈ runsP l) => ahead_val (Prod.ext rfl (h1 x hx) : aheadV t x.2 = ((aheadV t x.2).1, 0))
  refine ⟨hm, ?_, fun φ u => ?_, fun e he => ?_, h3 (Nat.zero_le _)⟩
  ·rw [h2]
   refine flatG_is _ ?_ fun x hx => ?_
   ·rw [List.map_map]
    have := rowsOf_inc l; rw [runs_groups l (isC_rows hm.can)]; unfold groups; rw [List.map_map]; exact (List.map_id (rowsOf l)).symm ▸ rowsOf_inc l
   ·obtain ⟨y, hy, rfl⟩ := List.mem_map.1 hx
    exact mayJ_canon (hv y hy).2.1
  ·rw [h2, Wt_flatG, Sm_map, ← Wt_runs, ← Sm_mul]
   exact Sm_congr fun x hx => by
    show φ x.1 * valI (aheadV t x.2).1 u = cc t u * (φ x.1 * valI x.2 u)
    rw [(hv x hx).2.2 u, Int.mul_left_comm]
  ·rw [h2] at he
   obtain ⟨x, hx, e1, _⟩ := flatG_mem he; obtain ⟨y, hy, rfl⟩ := List.mem_map.1 hx; obtain ⟨⟨e', he', e2⟩, _⟩ := runs_mem l y hy; exact ⟨e', he', by rw [e1]; exact e2.symm⟩
 ·rw [if_neg c] at h; cases h
theorem allP_row (t : Int) (l : List EdP) : (∀ e ∈ (allP (aheadV t) l).1, ∃ e' ∈ l, e'.f0 = e.f0) ∧ (allP (aheadV t) l).1.length ≤ 4096 := by
 obtain ⟨⟨b, e⟩, h⟩ : ∃ z, allP (aheadV t) l = z := ⟨_, rfl⟩
 rw [h]
 by_cases c : e = 0
 ·subst c
  obtain ⟨_, _, _, h1, h2⟩ := ahead_parts h; exact ⟨h1, h2⟩
 ·suffices b = [] by subst this; exact ⟨fun e he => (by cases he), Nat.zero_le _⟩
  unfold allP at h
  split at h
  ·have := mapR_err (aheadV t) (runsP l) [] (by unfold mapP at h; rw [h]; exact c)
   unfold mapP at h; rw [h] at this; exact this
  ·exact (congrArg Prod.fst h).symm
theorem join_ahead {hh : List Vl → Bool × Int} {ef t : Int} {l r a b p q c : List EdP} (ha : pairsV hh ef l r = (a, 0)) (hb : allP (aheadV t) a = (b, 0)) (hp : allP (aheadV t) l = (p, 0)) (hq : allP (aheadV t) r = (q, 0)) (hc : pairsV hh ef p q = (c, 0)) : b = c := by
 obtain ⟨_, _, _, _, _, va⟩ := pairs_val ha; obtain ⟨_, _, mc, _, _, vc⟩ := pairs_val hc; obtain ⟨_, ib, vb, _⟩ := ahead_parts hb; obtain ⟨_, _, vp, _⟩ := ahead_parts hp; obtain ⟨_, _, vq, _⟩ := ahead_parts hq; have key : ∀ φ u, Wt φ u b = Wt φ u c := fun φ u => by
  rw [vb, va, vc]; unfold Bf; rw [vp, show (fun p => Wt (fun s => kJ_ hh (p ++ s) * φ (p ++ s)) u q) = fun p => cc t u * Wt (fun s => kJ_ hh (p ++ s) * φ (p ++ s)) u r from funext fun p => vq _ u, Wt_mul, ← Int.mul_assoc, cc_sq]
 exact isC_uniq ib mc.can fun ⟨s, u⟩ => by rw [J_Wt, J_Wt, key, key]
theorem ahead_any (A0 : Option Addr) (c0 : Nat) (l : List EdP) (t : Int) (w : World) (hr0 : Kd.C kE w A0 l.length l) (hrow : ∀ e ∈ l, e.f0.length ≤ 4398046511104) :
  Calls Tryz.prog 38 #[.slice A0 l.length c0, .int .i64 t] w (Ans (allP (aheadV t) l) w) := by
 refine (aheadE_calls A0 c0 l t w hr0 hrow).mono ?_; rintro e w' ⟨v, rfl, hR, hb⟩; obtain ⟨A, c, rfl⟩ := Kd.R_slice hR; exact ⟨A, c, rfl, (Kd.R_reads' hR).2.2, (Kd.R_reads' hR).2.1, hb⟩
end Go.Proofs.YtmkgecapkeojaaaGreat.Eg
end
section
namespace Go.Proofs.YtmkgecapkeojaaaGreat.Eg
open Go.Proofs.YtmkgecapkeojaaaGreat Go.Proofs.YtmkgecapkeojaaaGreat.PDa Go.Proofs.YtmkgecapkeojaaaGreat.EvP
open Go.RowKit Go.Proofs.YtmkgecapkeojaaaGreatW.PrintWords Go.Proofs.YtmkgecapkeojaaaGreatW.PrintLast Go.Proofs.YtmkgecapkeojaaaGreatW.PrintMore
open Go.Proofs.YtmkgecapkeojaaaGreat.Stp Go.Proofs.YtmkgecapkeojaaaGreat.Rw
theorem r64b {z : Int} (h : (Lit.int .i64 z).wf = true) : PDd.r64 z = true := by
 have := R64.of_wf h; unfold PDd.r64; rw [Bool.and_eq_true]; exact ⟨decide_eq_true this.1, decide_eq_true this.2⟩
abbrev wfV (v : Rw.Vl) : Prop := (Lit.int .i64 v.f0).wf = true ∧ (Lit.int .i64 v.f1).wf = true ∧ v.f2.size ≤ 140737488351232
abbrev wfE (e : EdP) : Prop := ((∀ v ∈ e.f0, wfV v) ∧ e.f0.length * Tryz.prog.bytesOf 65 ≤ 140737488351232) ∧ (Lit.int .i64 e.f1).wf = true ∧ (Lit.int .i64 e.f2).wf = true
abbrev wfEs (l : List EdP) : Prop := (∀ e ∈ l, wfE e) ∧ l.length * Tryz.prog.bytesOf 41 ≤ 140737488351232
abbrev wfO (x : Op8) : Prop := (Lit.int .i64 x.f0).wf = true ∧ (Lit.int .i64 x.f1).wf = true ∧ x.f2.size ≤ 140737488351232
abbrev wfX (l : List Op8) : Prop := (∀ x ∈ l, wfO x) ∧ l.length * Tryz.prog.bytesOf 68 ≤ 140737488351232
theorem bytesV : Tryz.prog.bytesOf 65 = 32 := by kernel_rfl
theorem okEs_wf {l : List EdP} (h : wfEs l) : PDd.okEs l = true := by
 unfold PDd.okEs; refine List.all_eq_true.2 fun e he => ?_
 obtain ⟨⟨h1, h2⟩, _⟩ := h.1 e he; rw [bytesV] at h2; rw [Bool.and_eq_true]; exact ⟨decide_eq_true zq4, List.all_eq_true.2 fun v hv => r64b (h1 v hv).2.1⟩
theorem okXs_wf {l : List Op8} (h : wfX l) : PDd.okXs l = true := List.all_eq_true.2 fun x hx => r64b (h.1 x hx).2.1
end Go.Proofs.YtmkgecapkeojaaaGreat.Eg
end
section
namespace Go.Proofs.YtmkgecapkeojaaaGreat.Eg
open Go.Proofs.YtmkgecapkeojaaaGreat Go.Proofs.YtmkgecapkeojaaaGreat.PDa
open Go.RowKit Go.Proofs.YtmkgecapkeojaaaGreatW.PrintWords Go.Proofs.YtmkgecapkeojaaaGreatW.PrintLast Go.Proofs.YtmkgecapkeojaaaGreatW.PrintMore
open Go.Proofs.YtmkgecapkeojaaaGreat.Stp Go.Proofs.YtmkgecapkeojaaaGreat.Rw
theorem joinAhead_calls (A0 A1 A2 : Option Addr) (c0 c1 c2 : Nat) (l r : List EdP) (x : List Op8) (t : Int) (w : World)
  (hr0 : Kd.C kE w A0 l.length l) (hr1 : Kd.C kE w A1 r.length r) (hr2 : Kd.C kO w A2 x.length x) (hc2 : x.length ≤ c2)
  (hl : PDd.okEs l = true) (hr : PDd.okEs r = true) (hx : PDd.okXs x = true) :
  Calls Tryz.prog 10 #[.slice A0 l.length c0, .slice A1 r.length c1, .slice A2 x.length c2, .int .i64 t] w fun e w' => e = .returned (.bool true) ∧ Below w.heap.size w w' := by
 have LV := Lib.hid (fun w1 => liveJ_calls w1); have PA := Lib.hid (pairs_any A0 A1 A2 c0 c1 c2 l r x w hr0 hr1 hr2 hc2 hl hr hx); have GL := Lib.hid (fun (w1 : World) (h : Below w.heap.size w w1) => ahead_any A0 c0 l t w1 (Kd.C_below hr0 h) (PDd.okEs_row hl)); have GR := Lib.hid (fun (w1 : World) (h : Below w.heap.size w w1) => ahead_any A1 c1 r t w1 (Kd.C_below hr1 h) (PDd.okEs_row hr)); have hp0 := allP_row t l; have hq0 := allP_row t r; have ha0 := pairsV_row (EvP.holdsV x) (EvP.formV x) l r; obtain ⟨za, hza⟩ : ∃ z, pairsV (EvP.holdsV x) (EvP.formV x) l r = z := ⟨_, rfl⟩
 obtain ⟨zp, hzp⟩ : ∃ z, allP (aheadV t) l = z := ⟨_, rfl⟩
 obtain ⟨zq, hzq⟩ : ∃ z, allP (aheadV t) r = z := ⟨_, rfl⟩
 rw [hza] at PA ha0; rw [hzp] at GL hp0; rw [hzq] at GR hq0; obtain ⟨a, e1⟩ := za; obtain ⟨p, e3⟩ := zp; obtain ⟨q, e4⟩ := zq; have okp : PDd.okEs p = true := okEs_sub hl hp0.1; have okq : PDd.okEs q = true := okEs_sub hr hq0.1; have GA := Lib.hid (fun (A : Option Addr) (c : Nat) (w1 : World) (hC : Kd.C kE w1 A a.length a) => ahead_any A c a t w1 hC (fun e he => by have := ha0.1 e he; omega)); have PC := Lib.hid (fun (A B : Option Addr) (c d : Nat) (w1 : World) (h : Below w.heap.size w w1) (hC : Kd.C kE w1 A p.length p) (hD : Kd.C kE w1 B q.length q) => pairs_any A B A2 c d c2 p q x w1 hC hD (Kd.C_below hr2 h) hc2 okp okq hx); obtain ⟨zb, hzb⟩ : ∃ z, allP (aheadV t) a = z := ⟨_, rfl⟩
 obtain ⟨zc, hzc⟩ : ∃ z, pairsV (EvP.holdsV x) (EvP.formV x) p q = z := ⟨_, rfl⟩
 have hc0 := pairsV_row (EvP.holdsV x) (EvP.formV x) p q; rw [hzb] at GA; rw [hzc] at PC hc0; obtain ⟨b, e2⟩ := zb; obtain ⟨c, e5⟩ := zc; have F1 := Lib.hid (show (∀ e ∈ c, e.f0.length ≤ 4398046511104) ∧ c.length ≤ 1000000000 from ⟨fun e he => by have := hc0.1 e he; omega, by have := hc0.2.1; simp only at this; omega⟩); have XX := Lib.hid (fun (h1 : e1 = 0) (h2 : e2 = 0) (h3 : e3 = 0) (h4 : e4 = 0) (h5 : e5 = 0) => (show b = c by
  subst h1 h2 h3 h4 h5; exact join_ahead hza hzb hzp hzq hzc))
 clear hr0 hr1 hr2 hc2 hl hr hx hp0 hq0 ha0 hza hzp hzq okp okq hzb hzc hc0; go_enter Tryz.func10, Tryz.ntmps10
 go_wp2_with fail
 refine PA.out.mono ?_; rintro e w1 ⟨Aa, ca, rfl, hCa, hca, hb1⟩; have HB1 := Lib.hid hb1; have GA1 := Lib.hid (GA.out Aa ca w1 hCa); clear hCa hca hb1 PA GA
 go_wp2_with fail
 refine GA1.out.mono ?_; rintro e w2 ⟨Ab, cb, rfl, hCb, hcb, hb2⟩; have HB2 := Lib.hid (HB1.out.trans (hb2.mono HB1.out.size)); have HFb := Lib.hid (fun (w3 : World) (h : Below w2.heap.size w2 w3) => Kd.C_below hCb h); have HCb := Lib.hid hcb; clear hCb hcb hb2 GA1
 go_wp2_with fail
 refine (GL.out w2 HB2.out).mono ?_; rintro e w3 ⟨Ap, cp, rfl, hCp, hcp, hb3⟩; have HD3 := Lib.hid hb3; have HB3 := Lib.hid (HB2.out.trans (hb3.mono HB2.out.size)); have HFp := Lib.hid (fun (w4 : World) (h : Below w3.heap.size w3 w4) => Kd.C_below hCp h); clear hCp hcp hb3 GL
 go_wp2_with fail
 refine (GR.out w3 HB3.out).mono ?_; rintro e w4 ⟨Aq, cq, rfl, hCq, hcq, hb4⟩; have HD4 := Lib.hid (HD3.out.trans (hb4.mono HD3.out.size)); have HB4 := Lib.hid (HB3.out.trans (hb4.mono HB3.out.size)); have PC1 := Lib.hid (PC.out Ap Aq cp cq w4 HB4.out (HFp.out w4 hb4) hCq); clear hCq hcq hb4 GR PC HFp
 go_wp2_with fail
 refine PC1.out.mono ?_; rintro e w5 ⟨Ac, cz, rfl, hCc, hcc, hb5⟩; have HD5 := Lib.hid (HD4.out.trans (hb5.mono HD4.out.size)); have HB5 := Lib.hid (HB4.out.trans (hb5.mono HB4.out.size)); have HFc := Lib.hid (fun (w6 : World) (h : Below w5.heap.size w5 w6) => Kd.C_below hCc h); have HCc := Lib.hid hcc; clear hCc hcc hb5 PC1 HD3 HD4; have FIN := Lib.hid (show ∀ w9, Below w.heap.size w w9 → Calls Tryz.prog 28 #[] w9 fun e w' => e = .returned (.bool true) ∧ Below w.heap.size w w' from fun w9 h => (LV.out w9).mono fun e w' z => ⟨z.1, h.trans (z.2.mono h.size)⟩)
 by_cases h1 : e1 = 0
 case neg =>
  have q : (e1 != 0) = true := by simpa using h1
  clear h1 XX
  go_wp2_with fail
  refine (FIN.out _ HB5.out).mono ?_; rintro e w9 ⟨rfl, hb9⟩; go_wp2; go_ret; exact ⟨rfl, hb9⟩
 case pos =>
 by_cases h2 : e2 = 0
 case neg =>
  subst h1; have q : (e2 != 0) = true := by simpa using h2
  clear h2 XX
  go_wp2_with fail
  refine (FIN.out _ HB5.out).mono ?_; rintro e w9 ⟨rfl, hb9⟩; go_wp2; go_ret; exact ⟨rfl, hb9⟩
 case pos =>
 by_cases h3 : e3 = 0
 case neg =>
  subst h1 h2; have q : (e3 != 0) = true := by simpa using h3
  clear h3 XX
  go_wp2_with fail
  refine (FIN.out _ HB5.out).mono ?_; rintro e w9 ⟨rfl, hb9⟩; go_wp2; go_ret; exact ⟨rfl, hb9⟩
 case pos =>
 by_cases h4 : e4 = 0
 case neg =>
  subst h1 h2 h3; have q : (e4 != 0) = true := by simpa using h4
  clear h4 XX
  go_wp2_with fail
  refine (FIN.out _ HB5.out).mono ?_; rintro e w9 ⟨rfl, hb9⟩; go_wp2; go_ret; exact ⟨rfl, hb9⟩
 case pos =>
 by_cases h5 : e5 = 0
 case neg =>
  subst h1 h2 h3 h4; have q : (e5 != 0) = true := by simpa using h5
  clear h5 XX
  go_wp2_with fail
  refine (FIN.out _ HB5.out).mono ?_; rintro e w9 ⟨rfl, hb9⟩; go_wp2; go_ret; exact ⟨rfl, hb9⟩
 case pos =>
 obtain rfl := XX.out h1 h2 h3 h4 h5; subst h1 h2 h3 h4 h5; clear XX
 go_wp2_with fail
 refine (LV.out w5).mono ?_; rintro e w6 ⟨rfl, hb6⟩; have HB6 := Lib.hid (HB5.out.trans (hb6.mono HB5.out.size)); have SM := Lib.hid (hsame_calls Ab Ac cb cz b w6 (HFb.out w6 (HD5.out.trans (hb6.mono HD5.out.size))) HCb.out (HFc.out w6 hb6) HCc.out F1.out.2 F1.out.1); clear hb6
 go_wp2_with fail
 refine SM.out.mono ?_; rintro e w7 ⟨rfl, hb7⟩; have HB7 := Lib.hid (HB6.out.trans (hb7.mono HB6.out.size)); clear hb7; go_wp2; go_ret; exact ⟨rfl, HB7.out⟩
theorem joinAhead_walk (A0 : Option Addr) (c0 : Nat) (l0 : List EdP) (A1 : Option Addr) (c1 : Nat) (l1 : List EdP) (A2 : Option Addr) (c2 : Nat) (l2 : List Op8) (t : Int) (w : World) (hr0 : Kd.C k41 w A0 l0.length l0) (hc0 : l0.length ≤ c0) (h0 : wfEs l0)
  (hr1 : Kd.C k41 w A1 l1.length l1) (hc1 : l1.length ≤ c1) (h1 : wfEs l1) (hr2 : Kd.C k68 w A2 l2.length l2) (hc2 : l2.length ≤ c2) (h2 : wfX l2) (h3 : EvP.R64 t) :
  Calls Tryz.prog 10 #[.slice A0 l0.length c0, .slice A1 l1.length c1, .slice A2 l2.length c2, .int .i64 t] w fun e w' => e = .returned (.bool true) ∧ Below w.heap.size w w' :=
 joinAhead_calls A0 A1 A2 c0 c1 c2 l0 l1 l2 t w hr0 hr1 hr2 hc2 (okEs_wf h0) (okEs_wf h1) (okXs_wf h2)
end Go.Proofs.YtmkgecapkeojaaaGreat.Eg
end
