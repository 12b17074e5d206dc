/- Texts of this claim, put together by a program: SumsP, RefPut, RefNorm, RefProj, LawP, Any, LawS, LawSW, WSized. -/
import Derived.Test.YtmkgecapkeojaaaGreatS10
import Derived.Deep.DeepCutAuto
import Derived.SizedLaws
import Derived.ChangeSlices
set_option linter.unusedVariables false
set_option linter.unusedSimpArgs false
set_option maxHeartbeats 8000000
set_option maxRecDepth 100000
section
namespace Go.Proofs.YtmkgecapkeojaaaGreat.Eg
open Go.Proofs.YtmkgecapkeojaaaGreat Go.Proofs.YtmkgecapkeojaaaGreat.PDa
open Go.Proofs.YtmkgecapkeojaaaGreat.EvP (evalV formV holdsV)
open Go.RowKit Go.Proofs.YtmkgecapkeojaaaGreatW.PrintWords Go.Proofs.YtmkgecapkeojaaaGreat.Stp Go.Proofs.YtmkgecapkeojaaaGreat.Rw Go.Proofs.YtmkgecapkeojaaaGreat.Cmp Go.Proofs.YtmkgecapkeojaaaGreat.Canon
def addV (a b : List EdP) : List EdP × Int := if (mayE a && mayE b) = true then normV (a ++ b) else ([], 2)
theorem add_is {a b : List EdP} {r : List EdP × Int} (h : AddIs a b r) : r = addV a b := by
 unfold addV
 rcases h with ⟨h1, h2⟩ | ⟨h1, h2, h3⟩
 ·rw [if_neg (by rw [h1]; decide), h2]
 ·rw [if_pos (by rw [h1, h2]; rfl)]; exact norm_is h3
def S (φ : KK → Int) : List (KK × Int) → Int
 | [] => 0
 | x :: xs => φ x.1 * x.2 + S φ xs
theorem S_ins (φ : KK → Int) (x : KK × Int) : ∀ l, S φ (ins ltK x l) = φ x.1 * x.2 + S φ l
 | [] => rfl
 | y :: ys => by
  unfold ins
  split
  ·rename_i h
   show φ y.1 * (x.2 + y.2) + _ = φ x.1 * x.2 + (φ y.1 * y.2 + _)
   rw [h, Int.mul_add]; omega
  ·split
   ·rfl
   ·rw [S, S_ins φ x ys, S]; omega
theorem S_canon (φ : KK → Int) (l : List (KK × Int)) : S φ (canon ltK l) = S φ l := by
 have h0 : ∀ l : List (KK × Int), S φ (l.filter fun x => decide (x.2 ≠ 0)) = S φ l := by
  intro l
  induction l with
  | nil => rfl
  | cons x xs ih =>
   rw [List.filter_cons]
   by_cases h : x.2 = 0
   ·rw [if_neg (by simp [h]), ih, S, h, Int.mul_zero]; omega
   ·rw [if_pos (by simp [h]), S, S, ih]
 unfold canon; rw [h0]
 induction l with
 | nil => rfl
 | cons x xs ih => rw [List.foldr_cons, S_ins, ih, S]
theorem S_congr (φ : KK → Int) {a b : List (KK × Int)} (h : ∀ k, J a k = J b k) : S φ a = S φ b := by rw [← S_canon φ a, ← S_canon φ b, canon_congr ltK_ord h]
def mapE (g : List Vl → List Vl) (e : EdP) : EdP := ⟨g e.f0, e.f1, e.f2⟩
theorem J_map (g : List Vl → List Vl) (k : KK) : ∀ l : List EdP, JE (l.map (mapE g)) k = S (fun x => if (g x.1, x.2) = k then 1 else 0) (l.map pE)
 | [] => rfl
 | e :: es => by
  show J (pE (mapE g e) :: (es.map (mapE g)).map pE) k = S _ (pE e :: es.map pE)
  rw [J_cons, S]
  show (if (g e.f0, e.f1) = k then e.f2 else 0) + JE (es.map (mapE g)) k = (if (g e.f0, e.f1) = k then 1 else 0) * e.f2 + _
  rw [J_map g k es]
  split <;> omega
theorem J_filter (p : List Vl → Bool) (r : List Vl) (t : Int) (l : List EdP) : JE (l.filter fun e => p e.f0) (r, t) = if p r = true then JE l (r, t) else 0 := by
 have := J_filterK (fun k : KK => p k.1) (r, t) (l.map pE); rw [← this, List.filter_map]
 rfl
theorem jumpsOf_filter (p : List Vl → Bool) (r : List Vl) : ∀ l : List EdP, (jumpsOf (l.filter fun e => p e.f0) r).length ≤ (jumpsOf l r).length := fun l => by
 unfold jumpsOf; rw [List.length_map, List.length_map]; exact (List.Sublist.filter _ List.filter_sublist).length_le
theorem MayP.filter {l : List EdP} (h : MayP l) (p : List Vl → Bool) : MayP (l.filter fun e => p e.f0) := by
 refine ⟨?_, fun e he => h.each e (List.mem_filter.1 he).1, fun r => Nat.le_trans (jumpsOf_filter p r l) (h.few r), Nat.le_trans (List.length_filter_le _ _) h.len⟩; have := h.can.filter (fun x => p x.1.1); rw [List.filter_map] at this; exact this
theorem okN_append {a b : List EdP} (ha : okN a) (hb : okN b) : okN (a ++ b) := ⟨fun e he => (List.mem_append.1 he).elim (ha.1 e) (hb.1 e), fun e he => (List.mem_append.1 he).elim (ha.2 e) (hb.2 e)⟩
theorem JE_append (a b : List EdP) (k : KK) : JE (a ++ b) k = JE a k + JE b k := by
 unfold JE; rw [List.map_append, J_append]
theorem add_parts {a b s : List EdP} (h : addV a b = (s, 0)) : MayP a ∧ MayP b ∧ MayP s ∧ (∀ k, JE s k = JE (a ++ b) k) ∧ (∀ e ∈ s, ∃ e' ∈ a ++ b, e'.f0 = e.f0) := by
 unfold addV at h
 by_cases c : (mayE a && mayE b) = true
 ·rw [if_pos c] at h
  rw [Bool.and_eq_true, mayE_iff, mayE_iff] at c; obtain ⟨ok, hf, e⟩ := okN_of_norm (l := a ++ b) (by rw [h]); rw [h] at e; obtain rfl : s = flat (a ++ b) := congrArg Prod.fst e; refine ⟨c.1, c.2, flat_may ok hf, fun k => ?_, fun e he => flat_row he⟩; obtain ⟨r, t⟩ := k; rw [flat_J]
  split
  ·rfl
  ·rename_i c2
   rw [JE_append, c.1.late r t c2, c.2.late r t c2]; rfl
 ·rw [if_neg c] at h; cases h
theorem add_of {a b s : List EdP} (ha : MayP a) (hb : MayP b) (hs : MayP s) (hJ : ∀ r t, t < 1125899906842624 → JE s (r, t) = JE (a ++ b) (r, t)) : addV a b = (s, 0) := by
 unfold addV; rw [if_pos (by rw [(mayE_iff a).2 ha, (mayE_iff b).2 hb]; rfl), ← normV_congr hs.okN (okN_append ha.okN hb.okN) hJ, hs.norm]
theorem filL_ok (hh : List Vl → Bool × Int) : ∀ (l out : List EdP), (filL hh out l).2 = 0 → ∀ e ∈ l, (hh e.f0).2 = 0
 | [], _, _, e, he => by cases he
 | x :: xs, out, h, e, he => by
  rw [filL] at h
  split at h
  ·rename_i c; exact absurd h c
  ·rename_i c
   rcases List.mem_cons.1 he with rfl | he
   ·simpa using c
   ·split at h <;> exact filL_ok hh xs _ h e he
theorem filL_of (hh : List Vl → Bool × Int) : ∀ (l out : List EdP), (∀ e ∈ l, (hh e.f0).2 = 0) → filL hh out l = (out ++ l.filter (fun e => (hh e.f0).1), 0)
 | [], out, _ => by simp [filL]
 | x :: xs, out, h => by
  rw [filL, if_neg (by simpa using h x List.mem_cons_self)]; have ih := fun o => filL_of hh xs o fun e he => h e (List.mem_cons_of_mem _ he)
  rw [List.filter_cons]
  split
  ·rw [ih, List.append_assoc]; rfl
  ·exact ih _
theorem filterP_parts {hh : List Vl → Bool × Int} {ef : Int} {l f : List EdP} (h : filterP hh ef l = (f, 0)) : MayP l ∧ ef = 0 ∧ (∀ e ∈ l, (hh e.f0).2 = 0) ∧ f = l.filter fun e => (hh e.f0).1 := by
 unfold filterP at h
 by_cases c : mayE l = true
 ·rw [if_pos c] at h
  by_cases c2 : ef = 0
  ·rw [if_neg (by simpa using c2), fil_all hh l c] at h
   have h2 := filL_ok hh l [] (by rw [h]); rw [filL_of hh l [] h2] at h; exact ⟨(mayE_iff l).1 c, c2, h2, (congrArg Prod.fst h).symm⟩
  ·rw [if_pos c2] at h
   exact absurd (congrArg Prod.snd h) c2
 ·rw [if_neg c] at h; cases h
theorem filterP_of {hh : List Vl → Bool × Int} {l : List EdP} (h : MayP l) (h2 : ∀ e ∈ l, (hh e.f0).2 = 0) : filterP hh 0 l = (l.filter fun e => (hh e.f0).1, 0) := by
 have c := (mayE_iff l).2 h; unfold filterP; rw [if_pos c, if_neg (by decide), fil_all hh l c, filL_of hh l [] h2]; rfl
theorem sum_filter {hh : List Vl → Bool × Int} {ef : Int} {a b s fa fb : List EdP} (hs : addV a b = (s, 0)) (ha : filterP hh ef a = (fa, 0)) (hb : filterP hh ef b = (fb, 0)) : ∃ fs, filterP hh ef s = (fs, 0) ∧ addV fa fb = (fs, 0) := by
 obtain ⟨ma, mb, ms, hJ, hr⟩ := add_parts hs; obtain ⟨_, h0, ea, rfl⟩ := filterP_parts ha; obtain ⟨_, _, eb, rfl⟩ := filterP_parts hb; subst h0; refine ⟨_, filterP_of ms (fun e he => ?_), add_of (ma.filter fun r => (hh r).1) (mb.filter fun r => (hh r).1) (ms.filter fun r => (hh r).1) (fun r t _ => ?_)⟩
 ·obtain ⟨e', he', e1⟩ := hr e he
  rw [← e1]; exact (List.mem_append.1 he').elim (ea e') (eb e')
 ·rw [J_filter (fun r => (hh r).1), hJ, JE_append, JE_append, J_filter (fun r => (hh r).1), J_filter (fun r => (hh r).1)]
  split <;> omega
theorem madeL_ok (mk : List Vl → List Vl × Int) : ∀ (l out : List EdP), (madeL mk out l).2 = 0 → ∀ e ∈ l, (mk e.f0).2 = 0
 | [], _, _, e, he => by cases he
 | x :: xs, out, h, e, he => by
  rw [madeL] at h
  split at h
  ·rename_i c; exact absurd h c
  ·rename_i c
   rcases List.mem_cons.1 he with rfl | he
   ·simpa using c
   ·exact madeL_ok mk xs _ h e he
theorem madeL_of (mk : List Vl → List Vl × Int) : ∀ (l out : List EdP), (∀ e ∈ l, (mk e.f0).2 = 0) → madeL mk out l = (out ++ l.map (mapE fun r => (mk r).1), 0)
 | [], out, _ => by simp [madeL]
 | x :: xs, out, h => by
  rw [madeL, if_neg (by simpa using h x List.mem_cons_self), madeL_of mk xs _ fun e he => h e (List.mem_cons_of_mem _ he), List.append_assoc]
  rfl
theorem okN_map {l : List EdP} (h : okN l) (g : List Vl → List Vl) (hg : ∀ e ∈ l, rowMay (g e.f0) = true) : okN (l.map (mapE g)) := by
 refine ⟨fun x hx => ?_, fun x hx => ?_⟩ <;> obtain ⟨e, he, rfl⟩ := List.mem_map.1 hx
 ·exact argE_ok (hg e he) (okN_fair (h.1 e he)).2
 ·exact h.2 e he
theorem sum_map {g : List Vl → List Vl} {a b s pa pb : List EdP} (hs : addV a b = (s, 0)) (ga : ∀ e ∈ a ++ b, rowMay (g e.f0) = true) (ha : normV (a.map (mapE g)) = (pa, 0)) (hb : normV (b.map (mapE g)) = (pb, 0)) : addV pa pb = normV (s.map (mapE g)) := by
 obtain ⟨ma, mb, ms, hJ, hr⟩ := add_parts hs; obtain ⟨o1, f1, e1⟩ := okN_of_norm (l := a.map (mapE g)) (by rw [ha]); obtain ⟨o2, f2, e2⟩ := okN_of_norm (l := b.map (mapE g)) (by rw [hb]); rw [ha] at e1; rw [hb] at e2; obtain rfl : pa = flat (a.map (mapE g)) := congrArg Prod.fst e1; obtain rfl : pb = flat (b.map (mapE g)) := congrArg Prod.fst e2; have m1 := flat_may o1 f1; have m2 := flat_may o2 f2; unfold addV; rw [if_pos (by rw [(mayE_iff _).2 m1, (mayE_iff _).2 m2]; rfl)]; refine normV_congr (okN_append m1.okN m2.okN) (okN_map ms.okN g fun e he => ?_) fun r t ht => ?_
 ·obtain ⟨e', he', h1⟩ := hr e he
  rw [← h1]; exact ga e' he'
 ·rw [JE_append, flat_J, flat_J, if_pos ht, if_pos ht, J_map, J_map, J_map, S_congr _ hJ, List.map_append]
  generalize a.map pE = A; generalize b.map pE = B
  induction A with
  | nil => simp [S]
  | cons x xs ih => rw [List.cons_append, S, S, ← ih]; omega
theorem sum_project {xs : List (List Op8)} {a b s pa pb : List EdP} (hs : addV a b = (s, 0)) (xa : ∀ x ∈ xs, EOk x a) (xb : ∀ x ∈ xs, EOk x b) (ha : projD xs a = (pa, 0)) (hb : projD xs b = (pb, 0)) : addV pa pb = projD xs s := by
 obtain ⟨ma, mb, ms, hJ, hr⟩ := add_parts hs; have key : ∀ {l p : List EdP}, MayP l → projD xs l = (p, 0) → xs.length ≤ 8 ∧ formAll formV xs = 0 ∧ (∀ e ∈ l, (projR evalV e.f0 [] xs).2 = 0) ∧ normV (l.map (mapE fun r => (projR evalV r [] xs).1)) = (p, 0) := by
  intro l p m h; unfold projD at h; rw [if_pos ((mayE_iff l).2 m)] at h
  split at h
  ·cases h
  ·rename_i c1
   split at h
   ·rename_i c2; exact absurd (congrArg Prod.snd h) c2
   ·rename_i c2
    split at h
    ·rename_i c3; exact absurd (congrArg Prod.snd h) c3
    ·rename_i c3
     have h3 := madeL_ok _ l [] (by simpa using c3); rw [madeL_of _ l [] h3] at h; exact ⟨by omega, by simpa using c2, h3, h⟩
 obtain ⟨k1, k2, k3, k4⟩ := key ma ha; obtain ⟨_, _, k5, k6⟩ := key mb hb; have k7 : ∀ e ∈ a ++ b, (projR evalV e.f0 [] xs).2 = 0 := fun e he => (List.mem_append.1 he).elim (k3 e) (k5 e)
 have k8 : ∀ e ∈ s, (projR evalV e.f0 [] xs).2 = 0 := fun e he => by
  obtain ⟨e', he', h1⟩ := hr e he; rw [← h1]; exact k7 e' he'
 rw [sum_map hs (fun e he => ?_) k4 k6]
 ·unfold projD
  rw [if_pos ((mayE_iff s).2 ms), if_neg (by omega), if_neg (by simpa using k2), madeL_of _ s [] k8, if_neg (by simp)]
  rfl
 ·refine made_may e.f0 ?_ xs (fun x hx => ?_) k1 (k7 e he)
  ·exact (List.mem_append.1 he).elim (fun h => (ma.each e h).1) (fun h => (mb.each e h).1)
  ·exact (List.mem_append.1 he).elim (fun h => xa x hx e h) (fun h => xb x hx e h)
end Go.Proofs.YtmkgecapkeojaaaGreat.Eg
end
section
namespace Go.Proofs.YtmkgecapkeojaaaGreat.Eg
open Go.Proofs.YtmkgecapkeojaaaGreat Go.Proofs.YtmkgecapkeojaaaGreat.PDa
open Go.RowKit Go.Proofs.YtmkgecapkeojaaaGreatW.PrintWords Go.Proofs.YtmkgecapkeojaaaGreatW.PrintLast Go.Proofs.YtmkgecapkeojaaaGreatW.PrintMore
open Go.Proofs.YtmkgecapkeojaaaGreat.Stp Go.Proofs.YtmkgecapkeojaaaGreat.Run Go.Proofs.YtmkgecapkeojaaaGreat.Rw
theorem argE_parts {x : EdP} (h : argE x = false) : rowMay x.f0 = true ∧ x.f2 ≤ 1048576 ∧ -1048576 ≤ x.f2 := by
 unfold argE at h; rw [Bool.or_eq_false_iff, Bool.or_eq_false_iff] at h; obtain ⟨h1, h2, h3⟩ := h; exact ⟨by simpa using h1, by have := of_decide_eq_false h2; omega, by have := of_decide_eq_false h3; omega⟩
structure Hold2 (p : Prop) : Prop where
 out : p
end Go.Proofs.YtmkgecapkeojaaaGreat.Eg
end
section
namespace Go.Proofs.YtmkgecapkeojaaaGreat.Eg
open Go.Proofs.YtmkgecapkeojaaaGreat Go.Proofs.YtmkgecapkeojaaaGreat.PDa
open Go.RowKit Go.Proofs.YtmkgecapkeojaaaGreatW.PrintWords Go.Proofs.YtmkgecapkeojaaaGreatW.PrintLast Go.Proofs.YtmkgecapkeojaaaGreatW.PrintMore
open Go.Proofs.YtmkgecapkeojaaaGreat.Stp Go.Proofs.YtmkgecapkeojaaaGreat.Rw
theorem mapR_sub (g : List Jp → List Jp × Int) : ∀ (gs : List (List Vl × List Jp)) (out : List EdP), (∀ e ∈ (mapR g out gs).1, e ∈ out ∨ ∃ x ∈ gs, e.f0 = x.1) ∧ (out.length ≤ 4096 → (mapR g out gs).1.length ≤ 4096)
 | [], out => by rw [mapR]; exact ⟨fun e he => .inl he, fun h => h⟩
 | x :: xs, out => by
  rw [mapR]
  split
  ·exact ⟨by simp, by simp⟩
  ·split
   ·exact ⟨by simp, by simp⟩
   ·rename_i c
    obtain ⟨h1, h2⟩ := mapR_sub g xs (putP out x.1 (g x.2).1); refine ⟨fun e he => ?_, fun _ => h2 zq4⟩
    rcases h1 e he with h | ⟨y, hy, h⟩
    ·unfold putP at h
     rw [List.mem_append] at h
     rcases h with h | h
     ·exact .inl h
     ·obtain ⟨j, _, rfl⟩ := List.mem_map.1 h
      exact .inr ⟨x, List.mem_cons_self, rfl⟩
    ·exact .inr ⟨y, List.mem_cons_of_mem _ hy, h⟩
theorem normV_sub (l : List EdP) : (∀ e ∈ (normV l).1, e.f0.length ≤ 8) ∧ (normV l).1.length ≤ 4096 := by
 unfold normV
 split
 ·exact ⟨by simp, by simp⟩
 ·split
  ·exact ⟨by simp, by simp⟩
  ·rename_i h _
   obtain ⟨h1, h2⟩ := mapR_sub normJ (groups l) []; refine ⟨fun e he => ?_, h2 zq30⟩
   rcases h1 e he with h3 | ⟨x, hx, h3⟩
   ·simp at h3
   ·obtain ⟨r, hr, rfl⟩ := List.mem_map.1 hx
    obtain ⟨e', he', e1⟩ := (rowsOf_mem l r).1 hr; have ha : argE e' = false := by
     cases c : argE e' with
     | false => rfl
     | true => exact absurd (List.any_eq_true.2 ⟨e', he', c⟩) h
    have := may_len (argE_parts ha).1; rw [h3]
    show r.length ≤ 8
    rw [← e1]; exact this
theorem projD_sub (xs : List (List Op8)) (l : List EdP) : (∀ e ∈ (projD xs l).1, e.f0.length ≤ 8) ∧ (projD xs l).1.length ≤ 4096 := by
 unfold projD
 repeat' split
 all_goals first | exact normV_sub _ | exact ⟨by simp, by simp⟩
def Ans (r : List EdP × Int) (w : World) (e : Ending) (w' : World) : Prop := ∃ A c, e = .returned (.tuple #[.slice A r.1.length c, .int .i64 r.2]) ∧ Kd.C kE w' A r.1.length r.1 ∧ r.1.length ≤ c ∧ Below w.heap.size w w'
theorem filter_any (A0 : Option Addr) (c0 : Nat) (l : List EdP) (A1 : Option Addr) (c1 : Nat) (x : List Op8) (w : World) (hr0 : Kd.C kE w A0 l.length l) (hc0 : l.length ≤ c0) (hr1 : Kd.C kO w A1 x.length x) (hc1 : x.length ≤ c1) (hl : PDd.okEs l = true) (hx : PDd.okXs x = true) :
  Calls Tryz.prog 18 #[.slice A0 l.length c0, .slice A1 x.length c1] w (Ans (filterP (EvP.holdsV x) (EvP.formV x) l) w) := by
 refine (PDd.linear_Filter.calls A0 c0 l A1 c1 x _ _ w hr0 hc0 hr1 hc1 (by unfold PDd.linear_Filter.f; rw [hl, hx]; rfl)).mono ?_; rintro e w' ⟨v, rfl, hR, hb⟩; obtain ⟨A, c, rfl⟩ := Kd.R_slice hR; exact ⟨A, c, rfl, (Kd.R_reads' hR).2.2, (Kd.R_reads' hR).2.1, hb⟩
theorem project_any (A0 : Option Addr) (c0 : Nat) (l : List EdP) (A1 : Option Addr) (c1 : Nat) (x : List (List Op8)) (w : World) (hr0 : Kd.C kE w A0 l.length l) (hc0 : l.length ≤ c0) (hr1 : Kd.C (Kd.slice 68 kO) w A1 x.length x) (hc1 : x.length ≤ c1) (hl : PDd.okEs l = true) (hx : x.all PDd.okXs = true) :
  Calls Tryz.prog 21 #[.slice A0 l.length c0, .slice A1 x.length c1] w (Ans (projD x l) w) := by
 have hEO : ∀ y ∈ x, EOk y l := fun y hy => PDd.okX hl (List.all_eq_true.1 hx y hy)
 refine (PDd.linear_Project.calls A0 c0 l A1 c1 x _ _ w hr0 hc0 hr1 hc1 (by unfold PDd.linear_Project.f; rw [hl, hx, projD_is x l hEO]; rfl)).mono ?_; rintro e w' ⟨v, rfl, hR, hb⟩; obtain ⟨A, c, rfl⟩ := Kd.R_slice hR; exact ⟨A, c, rfl, (Kd.R_reads' hR).2.2, (Kd.R_reads' hR).2.1, hb⟩
theorem add_any (A0 A1 : Option Addr) (c0 c1 : Nat) (a b : List EdP) (w : World) (hr0 : Kd.C kE w A0 a.length a) (hr1 : Kd.C kE w A1 b.length b) (hw0 : ∀ e ∈ a, e.f0.length ≤ 4398046511104) (hw1 : ∀ e ∈ b, e.f0.length ≤ 4398046511104) :
  Calls Tryz.prog 33 #[.slice A0 a.length c0, .slice A1 b.length c1] w (Ans (addV a b) w) := by
 refine (Add_calls A0 A1 c0 c1 a b w hr0 hr1 hw0 hw1).mono ?_; rintro e w' ⟨v, r, hr, rfl, hR, hb⟩; obtain rfl := add_is hr; obtain ⟨A, c, rfl⟩ := Kd.R_slice hR; exact ⟨A, c, rfl, (Kd.R_reads' hR).2.2, (Kd.R_reads' hR).2.1, hb⟩
theorem normV_cases (l : List EdP) : (okN l ∧ Fit (flat l) ∧ normV l = (flat l, 0)) ∨ ∃ k, k ≠ 0 ∧ normV l = ([], k) := by
 by_cases h : (normV l).2 = 0
 ·exact .inl (okN_of_norm h)
 ·refine .inr ⟨(normV l).2, h, ?_⟩
  by_cases hok : okN l
  ·rcases normV_flat hok with ⟨_, h2⟩ | ⟨_, h2⟩
   ·rw [h2] at h; exact absurd rfl h
   ·rw [h2]
  ·unfold normV
   split
   ·rfl
   ·split
    ·rfl
    ·rename_i h1 h2
     rw [Bool.not_eq_true, List.any_eq_false] at h1 h2; exact absurd ⟨fun e he => by simpa using h1 e he, fun e he => by simpa using h2 e he⟩ hok
theorem addV_row (a b : List EdP) : (∀ e ∈ (addV a b).1, ∃ e' ∈ a ++ b, e'.f0 = e.f0) ∧ (addV a b).1.length ≤ 4096 := by
 unfold addV
 split
 ·rcases normV_cases (a ++ b) with ⟨_, h1, h2⟩ | ⟨k, _, h2⟩ <;> rw [h2]
  ·exact ⟨fun e he => flat_row he, h1.2⟩
  ·exact ⟨by simp, by simp⟩
 ·exact ⟨by simp, by simp⟩
theorem okEs_sub {l l' : List EdP} (h : PDd.okEs l = true) (hs : ∀ e ∈ l', ∃ e' ∈ l, e'.f0 = e.f0) : PDd.okEs l' = true := by
 unfold PDd.okEs at h ⊢; rw [List.all_eq_true] at h ⊢; intro e he; obtain ⟨e', he', h1⟩ := hs e he; have := h e' he'; rw [h1] at this; exact this
theorem okEs_add {a b : List EdP} (ha : PDd.okEs a = true) (hb : PDd.okEs b = true) : PDd.okEs (a ++ b) = true := by
 unfold PDd.okEs at ha hb ⊢; rw [List.all_append, ha, hb]; rfl
theorem sums_calls (fA : PDd.linear_Filter.f [e1, e2, e3] lxw = some ([e3], 0)) (fB : PDd.linear_Project.f [e1, e2, e3] [pxw] = some ([⟨[⟨1, 7, ⟨#[]⟩⟩], 2, 1⟩], 0))
  (A0 : Option Addr) (c0 : Nat) (a : List EdP) (A1 : Option Addr) (c1 : Nat) (b : List EdP) (A2 : Option Addr) (c2 : Nat) (x : List Op8) (A3 : Option Addr) (c3 : Nat) (xs : List (List Op8)) (w : World)
  (hr0 : Kd.C kE w A0 a.length a) (hc0 : a.length ≤ c0) (hr1 : Kd.C kE w A1 b.length b) (hc1 : b.length ≤ c1) (hr2 : Kd.C kO w A2 x.length x) (hc2 : x.length ≤ c2) (hr3 : Kd.C (Kd.slice 68 kO) w A3 xs.length xs) (hc3 : xs.length ≤ c3)
  (ha : PDd.okEs a = true) (hb : PDd.okEs b = true) (hx : PDd.okXs x = true) (hxs : xs.all PDd.okXs = true) :
  Calls Tryz.prog 8 #[.slice A0 a.length c0, .slice A1 b.length c1, .slice A2 x.length c2, .slice A3 xs.length c3] w fun e w' => e = .returned (.bool true) ∧ Below w.heap.size w w' := by
 have LV := Lib.hid (fun w1 => live_calls w1 fA fB); have FA := Lib.hid (fun (w1 : World) (h : Below w.heap.size w w1) => filter_any A0 c0 a A2 c2 x w1 (Kd.C_below hr0 h) hc0 (Kd.C_below hr2 h) hc2 ha hx); have FB := Lib.hid (fun (w1 : World) (h : Below w.heap.size w w1) => filter_any A1 c1 b A2 c2 x w1 (Kd.C_below hr1 h) hc1 (Kd.C_below hr2 h) hc2 hb hx); have FS := Lib.hid (fun (A : Option Addr) (c : Nat) (s : List EdP) (w1 : World) (h : Below w.heap.size w w1) (hC : Kd.C kE w1 A s.length s) (hc : s.length ≤ c) (hs : PDd.okEs s = true) => filter_any A c s A2 c2 x w1 hC hc (Kd.C_below hr2 h) hc2 hs hx); have PA := Lib.hid (fun (w1 : World) (h : Below w.heap.size w w1) => project_any A0 c0 a A3 c3 xs w1 (Kd.C_below hr0 h) hc0 (Kd.C_below hr3 h) hc3 ha hxs); have PB := Lib.hid (fun (w1 : World) (h : Below w.heap.size w w1) => project_any A1 c1 b A3 c3 xs w1 (Kd.C_below hr1 h) hc1 (Kd.C_below hr3 h) hc3 hb hxs); have PS := Lib.hid (fun (A : Option Addr) (c : Nat) (s : List EdP) (w1 : World) (h : Below w.heap.size w w1) (hC : Kd.C kE w1 A s.length s) (hc : s.length ≤ c) (hs : PDd.okEs s = true) => project_any A c s A3 c3 xs w1 hC hc (Kd.C_below hr3 h) hc3 hs hxs); have wa := PDd.okEs_row ha; have wb := PDd.okEs_row hb; have AD := Lib.hid (add_any A0 A1 c0 c1 a b w hr0 hr1 wa wb); have EA := Lib.hid (fun y (hy : y ∈ xs) => PDd.okX ha (List.all_eq_true.1 hxs y hy)); have EB := Lib.hid (fun y (hy : y ∈ xs) => PDd.okX hb (List.all_eq_true.1 hxs y hy)); obtain ⟨r, hr⟩ : ∃ r, addV a b = r := ⟨_, rfl⟩
 have hs0 := addV_row a b; rw [hr] at AD hs0; obtain ⟨s, es⟩ := r; have OKS := Lib.hid (show PDd.okEs s = true from okEs_sub (okEs_add ha hb) hs0.1); obtain ⟨ra, hra⟩ : ∃ r, filterP (EvP.holdsV x) (EvP.formV x) a = r := ⟨_, rfl⟩
 obtain ⟨rb, hrb⟩ : ∃ r, filterP (EvP.holdsV x) (EvP.formV x) b = r := ⟨_, rfl⟩
 obtain ⟨rs, hrs⟩ : ∃ r, filterP (EvP.holdsV x) (EvP.formV x) s = r := ⟨_, rfl⟩
 obtain ⟨qa, hqa⟩ : ∃ r, projD xs a = r := ⟨_, rfl⟩
 obtain ⟨qb, hqb⟩ : ∃ r, projD xs b = r := ⟨_, rfl⟩
 obtain ⟨qs, hqs⟩ : ∃ r, projD xs s = r := ⟨_, rfl⟩
 have sa := filterP_sub (EvP.holdsV x) (EvP.formV x) a; have sb := filterP_sub (EvP.holdsV x) (EvP.formV x) b; have ss := filterP_sub (EvP.holdsV x) (EvP.formV x) s; have ta := projD_sub xs a; have tb := projD_sub xs b; have ts := projD_sub xs s; rw [hra] at FA sa; rw [hrb] at FB sb; rw [hrs] at ss; rw [hqa] at PA ta; rw [hqb] at PB tb; rw [hqs] at ts; have FS2 := Lib.hid (fun A c w1 h hC hc => FS.out A c s w1 h hC hc OKS.out); have PS2 := Lib.hid (fun A c w1 h hC hc => PS.out A c s w1 h hC hc OKS.out); rw [hrs] at FS2; rw [hqs] at PS2; obtain ⟨fa, e1⟩ := ra; obtain ⟨fb, e2⟩ := rb; obtain ⟨fs, e3⟩ := rs; obtain ⟨pa, e4⟩ := qa; obtain ⟨pb, e5⟩ := qb; obtain ⟨ps, e6⟩ := qs; have WS := Lib.hid (PDd.okEs_row OKS.out); have F1 := Lib.hid (show (∀ e ∈ fa, e.f0.length ≤ 4398046511104) ∧ (∀ e ∈ fb, e.f0.length ≤ 4398046511104) ∧ (∀ e ∈ fs, e.f0.length ≤ 4398046511104) ∧ fs.length ≤ 1000000000 from ⟨fun e he => wa e (sa.1 e he), fun e he => wb e (sb.1 e he), fun e he => WS.out e (ss.1 e he), by have h1 := hs0.2; have h2 := ss.2; simp only at h1 h2; omega⟩); have F2 := Lib.hid (show (∀ e ∈ pa, e.f0.length ≤ 4398046511104) ∧ (∀ e ∈ pb, e.f0.length ≤ 4398046511104) ∧ (∀ e ∈ ps, e.f0.length ≤ 4398046511104) ∧ ps.length ≤ 1000000000 from ⟨fun e he => by have := ta.1 e he; omega, fun e he => by have := tb.1 e he; omega, fun e he => by have := ts.1 e he; omega, by have := ts.2; simp only at this; omega⟩); have X1 := Lib.hid (fun (h0 : es = 0) (h1 : e1 = 0) (h2 : e2 = 0) => (show e3 = 0 ∧ addV fa fb = (fs, 0) by
  subst h0 h1 h2; obtain ⟨z, h3, h4⟩ := sum_filter hr hra hrb; rw [hrs] at h3; cases h3; exact ⟨rfl, h4⟩))
 have X2 := Lib.hid (fun (h0 : es = 0) (h1 : e4 = 0) (h2 : e5 = 0) => (show addV pa pb = (ps, e6) by
  subst h0 h1 h2; rw [sum_project hr EA.out EB.out hqa hqb, hqs]))
 clear hr0 hr1 hr2 hr3 hc0 hc1 hc2 hc3 ha hb hx hxs wa wb hs0 hr hra hrb hrs hqa hqb hqs sa sb ss ta tb ts EA EB fA fB FS PS; go_enter Tryz.func8, Tryz.ntmps8
 go_wp2_with fail
 refine AD.out.mono ?_; rintro e w1 ⟨As, cs, rfl, hCs, hcs, hb1⟩; have HB1 := Lib.hid hb1; have HS := Lib.hid (fun (w2 : World) (h : Below w1.heap.size w1 w2) => Kd.C_below hCs h); have HCS := Lib.hid hcs; clear hCs hcs hb1 AD
 go_wp2_with fail
 refine (FA.out w1 HB1.out).mono ?_; rintro e w2 ⟨Aa, ca, rfl, hCa, hca, hb2⟩; have HD2 := Lib.hid hb2; have HFa := Lib.hid (fun (w3 : World) (h : Below w2.heap.size w2 w3) => Kd.C_below hCa h); have HCa := Lib.hid hca; have HB2 := Lib.hid (HB1.out.trans (hb2.mono HB1.out.size)); clear hCa hca hb2 FA
 go_wp2_with fail
 refine (FB.out w2 HB2.out).mono ?_; rintro e w3 ⟨Ab, cb, rfl, hCb, hcb, hb3⟩; have HD3 := Lib.hid hb3; have HFb := Lib.hid (fun (w4 : World) (h : Below w3.heap.size w3 w4) => Kd.C_below hCb h); have HCb := Lib.hid hcb; have HB3 := Lib.hid (HB2.out.trans (hb3.mono HB2.out.size)); have HE3 := Lib.hid (HD2.out.trans (hb3.mono HD2.out.size)); clear hCb hcb hb3 FB
 go_wp2_with fail
 refine (FS2.out As cs w3 HB3.out (HS.out w3 HE3.out) HCS.out).mono ?_; rintro e w4 ⟨Af, cf, rfl, hCf, hcf, hb4⟩; have HD4 := Lib.hid hb4; have HFf := Lib.hid (fun (w5 : World) (h : Below w4.heap.size w4 w5) => Kd.C_below hCf h); have HCf := Lib.hid hcf; have HB4 := Lib.hid (HB3.out.trans (hb4.mono HB3.out.size)); have HE4 := Lib.hid (HE3.out.trans (hb4.mono HE3.out.size)); clear hCf hcf hb4 FS2
 by_cases h0 : es = 0
 case neg =>
  have q : (es != 0) = true := by simpa using h0
  clear h0
  go_wp2_with fail
  refine (LV.out w4).mono ?_; rintro e w5 ⟨rfl, hb5⟩; have HB5 := Lib.hid (HB4.out.trans (hb5.mono HB4.out.size)); clear hb5; go_wp2; go_ret; exact ⟨rfl, HB5.out⟩
 case pos =>
 subst h0; have X3 := Lib.hid (X1.out rfl); have X4 := Lib.hid (X2.out rfl); clear X1 X2
 go_upto_if 59 with (refine SortJ.stopC (n := 59) ?_; intro J hJ)
 refine Met.intro (hJ _ _ ?_)
 go_cut [] (fun wx => Below w4.heap.size w4 wx)
 case first =>
  clear hJ
  by_cases h1 : e1 = 0
  case neg =>
   have q1 : (e1 == 0) = false := by simpa using h1
   clear h1
   go_wp2_with fail
   go_meet
   exact Below.refl _ _
  case pos =>
   by_cases h2 : e2 = 0
   case neg =>
    have q2 : (e2 == 0) = false := by simpa using h2
    subst h1; clear h2
    go_wp2_with fail
    go_meet
    exact Below.refl _ _
   case pos =>
    obtain ⟨h3, h4⟩ := X3.out h1 h2; subst h1 h2 h3; have AD2 := Lib.hid (add_any Aa Ab ca cb fa fb w4 (HFa.out w4 (HD3.out.trans (HD4.out.mono HD3.out.size))) (HFb.out w4 HD4.out) F1.out.1 F1.out.2.1); rw [h4] at AD2; clear h4
    go_wp2_with fail
    refine AD2.out.mono ?_; rintro e w5 ⟨At, ct, rfl, hCt, hct, hb5⟩; have SM := Lib.hid (hsame_calls At Af ct cf fs w5 hCt hct (HFf.out w5 hb5) HCf.out F1.out.2.2.2 F1.out.2.2.1); have HD5 := Lib.hid hb5; clear hCt hct hb5 AD2
    go_wp2_with fail
    refine SM.out.mono ?_; rintro e w6 ⟨rfl, hb6⟩; have HD6 := Lib.hid (HD5.out.trans (hb6.mono HD5.out.size)); clear hb6 SM
    go_wp2_with fail
    go_meet
    exact HD6.out
 case rest =>
 have HD5 := Lib.hid hcut; have HB5 := Lib.hid (HB4.out.trans (hcut.mono HB4.out.size)); have HE5 := Lib.hid (HE4.out.trans (hcut.mono HE4.out.size)); clear hcut X3 HFa HFb HFf HD2 HD3 HD4 HE3 HE4
 go_wp2_with fail
 refine (PA.out wc HB5.out).mono ?_; rintro e w6 ⟨Aa, ca, rfl, hCa, hca, hb6⟩; have HPa := Lib.hid (fun (w3 : World) (h : Below w6.heap.size w6 w3) => Kd.C_below hCa h); have HCa := Lib.hid hca; have HB6 := Lib.hid (HB5.out.trans (hb6.mono HB5.out.size)); have HE6 := Lib.hid (HE5.out.trans (hb6.mono HE5.out.size)); clear hCa hca hb6 PA
 go_wp2_with fail
 refine (PB.out w6 HB6.out).mono ?_; rintro e w7 ⟨Ab, cb, rfl, hCb, hcb, hb7⟩; have HD7 := Lib.hid hb7; have HPb := Lib.hid (fun (w3 : World) (h : Below w7.heap.size w7 w3) => Kd.C_below hCb h); have HCb := Lib.hid hcb; have HB7 := Lib.hid (HB6.out.trans (hb7.mono HB6.out.size)); have HE7 := Lib.hid (HE6.out.trans (hb7.mono HE6.out.size)); clear hCb hcb hb7 PB
 go_wp2_with fail
 refine (PS2.out As cs w7 HB7.out (HS.out w7 HE7.out) HCS.out).mono ?_; rintro e w8 ⟨Af, cf, rfl, hCf, hcf, hb8⟩; have HD8 := Lib.hid hb8; have HE8 := Lib.hid (HD7.out.trans (hb8.mono HD7.out.size)); have HPf := Lib.hid (fun (w5 : World) (h : Below w8.heap.size w8 w5) => Kd.C_below hCf h); have HCf := Lib.hid hcf; have HB8 := Lib.hid (HB7.out.trans (hb8.mono HB7.out.size)); clear hCf hcf hb8 PS2; have fin : ∀ w9, Below w.heap.size w w9 → Calls Tryz.prog 17 #[] w9 fun e w' => e = .returned (.bool true) ∧ Below w.heap.size w w' := fun w9 h => (LV.out w9).mono fun e w' z => ⟨z.1, h.trans (z.2.mono h.size)⟩
 have FIN := Lib.hid fin; clear fin
 by_cases h4 : e4 = 0
 case neg =>
  have q : (e4 != 0) = true := by simpa using h4
  clear h4
  go_wp2_with fail
  refine (FIN.out _ HB8.out).mono ?_; rintro e w9 ⟨rfl, hb9⟩; go_wp2; go_ret; exact ⟨rfl, hb9⟩
 case pos =>
 by_cases h5 : e5 = 0
 case neg =>
  have q : (e5 != 0) = true := by simpa using h5
  subst h4; clear h5
  go_wp2_with fail
  refine (FIN.out _ HB8.out).mono ?_; rintro e w9 ⟨rfl, hb9⟩; go_wp2; go_ret; exact ⟨rfl, hb9⟩
 case pos =>
 have h6 := X4.out h4 h5; subst h4 h5; have AD3 := Lib.hid (add_any Aa Ab ca cb pa pb w8 (HPa.out w8 HE8.out) (HPb.out w8 HD8.out) F2.out.1 F2.out.2.1); rw [h6] at AD3; clear h6 X4
 go_wp2_with fail
 refine AD3.out.mono ?_; rintro e w9 ⟨At, ct, rfl, hCt, hct, hb9⟩; have HT := Lib.hid (fun (w5 : World) (h : Below w9.heap.size w9 w5) => Kd.C_below hCt h); have HCt := Lib.hid hct; have HD9 := Lib.hid hb9; have HB9 := Lib.hid (HB8.out.trans (hb9.mono HB8.out.size)); clear hCt hct hb9 AD3
 go_wp2_with fail
 refine (LV.out w9).mono ?_; rintro e w10 ⟨rfl, hb10⟩; have HB10 := Lib.hid (HB9.out.trans (hb10.mono HB9.out.size)); have SM := Lib.hid (hsame_calls At Af ct cf ps w10 (HT.out w10 hb10) HCt.out (HPf.out w10 (HD9.out.trans (hb10.mono HD9.out.size))) HCf.out F2.out.2.2.2 F2.out.2.2.1); clear hb10
 go_wp2_with fail
 refine SM.out.mono ?_; rintro e w11 ⟨rfl, hb11⟩; have HB11 := Lib.hid (HB10.out.trans (hb11.mono HB10.out.size)); clear hb11; go_wp2; go_ret; exact ⟨rfl, HB11.out⟩
end Go.Proofs.YtmkgecapkeojaaaGreat.Eg
end
section
namespace Go.Proofs.YtmkgecapkeojaaaGreat.Eg
open Go.Proofs.YtmkgecapkeojaaaGreat Go.Proofs.YtmkgecapkeojaaaGreat.PDa Go.Proofs.YtmkgecapkeojaaaGreat.EvP
open Go.RowKit Go.Proofs.YtmkgecapkeojaaaGreatW.PrintWords Go.Proofs.YtmkgecapkeojaaaGreatW.PrintLast Go.Proofs.YtmkgecapkeojaaaGreatW.PrintMore
open Go.Proofs.YtmkgecapkeojaaaGreat.Stp Go.Proofs.YtmkgecapkeojaaaGreat.Rw
theorem sums_walk (A0 : Option Addr) (c0 : Nat) (l0 : List EdP) (A1 : Option Addr) (c1 : Nat) (l1 : List EdP) (A2 : Option Addr) (c2 : Nat) (l2 : List Op8) (A3 : Option Addr) (c3 : Nat) (l3 : List (List Op8)) (w : World) (hr0 : Kd.C k41 w A0 l0.length l0) (hc0 : l0.length ≤ c0) (h0 : wfEs l0)
  (hr1 : Kd.C k41 w A1 l1.length l1) (hc1 : l1.length ≤ c1) (h1 : wfEs l1) (hr2 : Kd.C k68 w A2 l2.length l2) (hc2 : l2.length ≤ c2) (h2 : wfX l2)
  (hr3 : Kd.C (Kd.slice 68 k68) w A3 l3.length l3) (hc3 : l3.length ≤ c3) (h3 : (∀ x ∈ l3, wfX x) ∧ l3.length * Tryz.prog.bytesOf 24 ≤ 140737488351232) :
  Calls Tryz.prog 8 #[.slice A0 l0.length c0, .slice A1 l1.length c1, .slice A2 l2.length c2, .slice A3 l3.length c3] w fun e w' => e = .returned (.bool true) ∧ Below w.heap.size w w' :=
 sums_calls factA factB A0 c0 l0 A1 c1 l1 A2 c2 l2 A3 c3 l3 w hr0 hc0 hr1 hc1 hr2 hc2 hr3 hc3 (okEs_wf h0) (okEs_wf h1) (okXs_wf h2) (List.all_eq_true.2 fun x hx => okXs_wf (h3.1 x hx))
end Go.Proofs.YtmkgecapkeojaaaGreat.Eg
end
