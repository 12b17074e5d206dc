/- EvalParts: enough fuel gives true. -/
import Derived.Test.YtbjbnlngdkkidaaEvAns
import Derived.Test.YtbjbnlngdkkidaaPEpx3
namespace Go.Proofs.Ytbjbnlngdkkidaa.EvP
open Go.RowKit Go.Proofs.YtbjbnlngdkkidaaW.PrintWords Go.Proofs.YtbjbnlngdkkidaaW.PrintLast Go.Proofs.YtbjbnlngdkkidaaW.PrintMore
open Go.Proofs.Ytbjbnlngdkkidaa.PEv Go.Proofs.Ytbjbnlngdkkidaa.PEp
set_option linter.unusedSimpArgs false
set_option linter.unusedVariables false
theorem begin_T : ∀ (t : T), t.ok → ∀ (p q : List O) (lack r : Int), (p ++ (t.fl ++ q)).length ≤ 64 → 1 ≤ lack → lack + (t.fl.length : Int) ≤ 1000 →
    U (fun k => expr_begin.l0 k (p ++ (t.fl ++ q)) (lack - 1) (p.length : Int)) r → U (fun k => expr_begin.l0 k (p ++ (t.fl ++ q)) lack ((p ++ t.fl).length : Int)) r
  | t, ht, p, q, lack, r, hl, h1, h2, h => by
    obtain ⟨y, hy⟩ := t.fl_top
    have hlen : (p ++ t.fl).length = p.length + (y.length + 1) := by rw [hy]; simp
    have hl' := hl
    simp at hl'
    have hyl : t.fl.length = y.length + 1 := by rw [hy]; simp
    have hx : p ++ (t.fl ++ q) = (p ++ y) ++ t.top :: q := by rw [hy]; simp
    have hat : wrap64 (((p ++ t.fl).length : Int) - 1) = ((p ++ y).length : Int) := by rw [w64 (by omega) (by omega), hlen]; simp; omega
    refine U.succ ?_
    simp only [expr_begin.l0]
    rw [hat]
    have hrd : rd_T41 (p ++ (t.fl ++ q)) ((p ++ y).length : Int) = t.top := by rw [hx]; exact rd_at _ _ _
    rw [hrd]
    refine U.pos (by omega) (U.pos (by omega) (U.pos (by simp; omega) (U.bind (takes_E _) ?_)))
    cases t with
    | l o =>
      have ht0 : takes o.f0 = 0 := ht.2
      have hy0 : y = [] := by
        have : y.length = 0 := by simp [T.fl] at hyl; simp [hyl]
        exact List.eq_nil_of_length_eq_zero this
      subst hy0
      refine h.congr fun k => ?_
      show expr_begin.l0 k _ (wrap64 (lack + wrap64 (takes o.f0 - 1))) _ = _
      rw [ht0, w64 (x := 0 - 1) (by omega) (by omega), w64 (by omega) (by omega), List.append_nil]; rfl
    | u o t =>
      have ht0 : takes o.f0 = 1 := ht.2.1
      have hqq : y = t.fl := (List.append_inj_left' (s₂ := t.fl) (t₁ := [o]) (t₂ := [o]) hy.symm rfl)
      subst hqq
      have hl3 : (p ++ (t.fl ++ ([o] ++ q))).length ≤ 64 := by simp at hl' ⊢; omega
      have e3 : p ++ ((T.u o t).fl ++ q) = p ++ (t.fl ++ ([o] ++ q)) := by simp [T.fl]
      rw [e3] at h ⊢
      have := begin_T t ht.2.2 p ([o] ++ q) lack r hl3 h1 (by simp [T.fl] at h2; omega) h
      refine this.congr fun k => ?_
      show expr_begin.l0 k _ (wrap64 (lack + wrap64 (takes o.f0 - 1))) _ = _
      rw [ht0, w64 (x := 1 - 1) (by omega) (by omega), w64 (by omega) (by omega)]; congr 1; omega
    | b o t s =>
      have ht0 : takes o.f0 = 2 := ht.2.1
      have hqq : y = t.fl ++ s.fl := (List.append_inj_left' (s₂ := t.fl ++ s.fl) (t₁ := [o]) (t₂ := [o]) (by rw [show (t.fl ++ s.fl) ++ [o] = (T.b o t s).fl from by simp [T.fl]]; exact hy.symm) rfl)
      subst hqq
      have e3 : p ++ ((T.b o t s).fl ++ q) = (p ++ t.fl) ++ (s.fl ++ ([o] ++ q)) := by simp [T.fl]
      have e4 : (p ++ t.fl) ++ (s.fl ++ ([o] ++ q)) = p ++ (t.fl ++ (s.fl ++ ([o] ++ q))) := by simp
      have hp1 := t.fl_pos
      have hp2 := s.fl_pos
      have hl3 : ((p ++ t.fl) ++ (s.fl ++ ([o] ++ q))).length ≤ 64 := by rw [← e3]; exact hl
      have hl4 : (p ++ (t.fl ++ (s.fl ++ ([o] ++ q)))).length ≤ 64 := by rw [← e4]; exact hl3
      have hs : lack + 1 + (s.fl.length : Int) ≤ 1000 := by simp [T.fl] at h2; omega
      have hs2 : lack + (t.fl.length : Int) ≤ 1000 := by simp [T.fl] at h2; omega
      rw [e3] at h ⊢
      have h5 : U (fun k => expr_begin.l0 k ((p ++ t.fl) ++ (s.fl ++ ([o] ++ q))) lack ((p ++ t.fl).length : Int)) r := by
        rw [e4] at h ⊢
        exact begin_T t ht.2.2.1 p (s.fl ++ ([o] ++ q)) lack r hl4 h1 hs2 h
      have := begin_T s ht.2.2.2 (p ++ t.fl) ([o] ++ q) (lack + 1) r hl3 (by omega) hs (h5.congr fun k => by congr 1; omega)
      refine this.congr fun k => ?_
      show expr_begin.l0 k _ (wrap64 (lack + wrap64 (takes o.f0 - 1))) _ = _
      rw [ht0, w64 (x := 2 - 1) (by omega) (by omega), w64 (by omega) (by omega), ← List.append_assoc p t.fl s.fl]; rfl
theorem begin_fl (t : T) (ht : t.ok) (p : List O) (hl : (p ++ t.fl).length ≤ 64) : U (fun k => expr_begin.f k (p ++ t.fl)) (p.length : Int) := by
  have hl' := hl
  simp at hl'
  have := begin_T t ht p [] 1 (p.length : Int) (by simp; omega) (by omega) (by omega) (by
    refine U.succ ?_
    simp only [expr_begin.l0]
    exact U.neg (by omega) (U.some _))
  rw [List.append_nil] at this
  exact this
theorem parts_end (out : List (List O)) (rest : List O) : U (fun k => expr_Parts.l0 k out rest (-1)) (out, 0) := by
  refine U.succ ?_
  simp only [expr_Parts.l0]
  exact U.neg (by omega) (U.some _)
theorem parts_step (out : List (List O)) (t : T) (ht : t.ok) (p : List O) (hl : (p ++ t.fl).length ≤ 64) (i : Nat) (hi : i < out.length) (hi2 : i ≤ 2) (r : List (List O) × Int)
    (h : U (fun k => expr_Parts.l0 k (out.set i t.fl) p ((i : Int) - 1)) r) : U (fun k => expr_Parts.l0 k out (p ++ t.fl) (i : Int)) r := by
  have hl' := hl
  simp at hl'
  refine U.succ ?_
  simp only [expr_Parts.l0]
  refine U.pos (by omega) (U.bind (begin_fl t ht p hl) (U.pos (by omega) (U.pos (by simp <;> omega) ?_)))
  have hd : (p ++ t.fl).drop ((p.length : Int)).toNat = t.fl := by simp
  have hk : (p ++ t.fl).take ((p.length : Int)).toNat = p := by simp
  rw [hd, hk]
  have hc : api_Op.f t.fl = some t.fl := by unfold api_Op.f; rw [if_pos (by omega)]
  rw [hc]
  refine U.bind (U.some _) (U.pos (by omega) (U.pos (by omega) ?_))
  refine h.congr fun k => ?_
  congr 1
  rw [w64 (by omega) (by omega)]
theorem parts_E (t : T) (ht : t.ok) (hf : formV t.fl = 0) (hl : t.fl.length ≤ 64) : U (fun k => expr_Parts.f k t.fl) (t.kids, 0) := by
  refine U.bind (form_E t.fl) ?_
  rw [hf]
  refine U.pos rfl ?_
  obtain ⟨q, hq⟩ := t.fl_top
  have hl' := hl
  rw [hq] at hl'
  have hl'' := hl'
  simp at hl''
  rw [hq, last_at q _ hl', last_ix q _ hl']
  have hk : (q ++ [t.top]).take ((q.length : Int)).toNat = q := by simp
  rw [hk]
  refine U.pos (by omega) (U.pos (by simp <;> omega) (U.bind (takes_E _) ?_))
  cases t with
  | l o =>
    have h1 : takes (T.l o).top.f0 = 0 := ht.2
    rw [h1]
    refine U.pos (by omega) (U.pos (by decide) (U.bind (U.some _) (U.pos (by simp <;> omega) ?_)))
    rw [show wrap64 (((List.replicate (Int.toNat 0) ([] : List O)).length : Int) - 1) = -1 from by rw [w64 (by simp) (by simp)]; simp]
    exact parts_end [] q
  | u o t =>
    have hqq : q = t.fl := List.append_inj_left' (s₂ := t.fl) (t₁ := [o]) (t₂ := [o]) hq.symm rfl
    have h1 : takes (T.u o t).top.f0 = 1 := ht.2.1
    rw [h1]
    subst hqq
    refine U.pos (by omega) (U.pos (by decide) (U.bind (U.some _) (U.pos (by simp <;> omega) ?_)))
    have := parts_step [[]] t ht.2.2 [] (by simp; omega) 0 (by simp) (by omega) _ (parts_end [t.fl] [])
    rw [show wrap64 (((List.replicate (Int.toNat 1) ([] : List O)).length : Int) - 1) = 0 from by rw [w64 (by simp) (by simp)]; simp]
    exact this
  | b o t s =>
    have hqq : q = t.fl ++ s.fl := List.append_inj_left' (s₂ := t.fl ++ s.fl) (t₁ := [o]) (t₂ := [o]) (by rw [show (t.fl ++ s.fl) ++ [o] = (T.b o t s).fl from by simp [T.fl]]; exact hq.symm) rfl
    have h1 : takes (T.b o t s).top.f0 = 2 := ht.2.1
    rw [h1]
    subst hqq
    simp at hl''
    refine U.pos (by omega) (U.pos (by decide) (U.bind (U.some _) (U.pos (by simp <;> omega) ?_)))
    have h2 := parts_step [[], s.fl] t ht.2.2.1 [] (by simp; omega) 0 (by simp) (by omega) _ (parts_end [t.fl, s.fl] [])
    have h3 := parts_step [[], []] s ht.2.2.2 t.fl (by simp; omega) 1 (by simp) (by omega) _ h2
    rw [show wrap64 (((List.replicate (Int.toNat 2) ([] : List O)).length : Int) - 1) = 1 from by rw [w64 (by simp) (by simp)]; simp]
    exact h3
def leafOf (v : Th) : O := match v with
  | .num n => ⟨1, n, ⟨#[]⟩⟩
  | .txt s => ⟨2, 0, s⟩
theorem leaf_ok {v : Th} (h : VOk v) : (T.l (leafOf v)).ok := by
  cases v with
  | num n => exact ⟨by simp [leafOf, okW, noT, nilT], rfl⟩
  | txt s =>
    have hs : s.size ≤ 64 := h
    exact ⟨by simp [leafOf, okW, hs], rfl⟩
theorem leaf_ev (row : List Vl) (v : Th) : (T.l (leafOf v)).ev row = .ok v := by cases v <;> rfl
theorem leaf_r {v : Th} (h : VOk v) : R64 (leafOf v).f1 := by
  cases v with
  | num n => exact h
  | txt s => show R64 0; unfold R64; omega
theorem formV_T (t : T) (ht : t.ok) (hl : t.fl.length ≤ 64) : formV t.fl = 0 := by
  have h := parse_fl t ht [] []
  rw [List.append_nil] at h
  unfold formV
  rw [if_neg (by omega), h]; rfl
abbrev W := Int × Int × ByteArray × Int
theorem j0_true (x : List O) (row : List Vl) (ps : List (List O)) (e f : Int) (v : Int × Int × ByteArray) (h : e = 0 ∨ f = e) : U (fun k => rescindlaw18_EvalParts.j0 k x row ps e f true v.1 v.2.1 v.2.2) true := by
  refine U.succ ?_
  simp only [rescindlaw18_EvalParts.j0]
  refine U.pos trivial (U.bind live_U (U.pos rfl ?_))
  by_cases h0 : e = 0
  · exact U.pos h0 (U.some _)
  · refine U.neg h0 (U.const ?_)
    rcases h with h | h
    · exact absurd h h0
    · simp [h]
def AfterP (x : List O) (row : List Vl) (ps : List (List O)) (f : Int) (ag : List O) (i : Int) (v : Int × Int × ByteArray) : Except Int Th → Prop
  | .error e => f = e
  | .ok y => U (fun k => rescindlaw18_EvalParts.l0 k x row ps f (ag ++ [leafOf y]) (i + 1) v.1 v.2.1 v.2.2) true
theorem ep_step (x : List O) (row : List Vl) (ps : List (List O)) (f : Int) (ag : List O) (i : Nat) (v : Int × Int × ByteArray) (p : List O) (hp : ps[i]? = some p) (hi : i < 3) (ha : ag.length < 3) (y : Except Int Th) (hg : Good y) (hy : U (fun k => eval_Eval.f k p row) (outV y))
    (h : AfterP x row ps f ag (i : Int) v y) : U (fun k => rescindlaw18_EvalParts.l0 k x row ps f ag (i : Int) v.1 v.2.1 v.2.2) true := by
  have hlt : i < ps.length := by
    rcases Nat.lt_or_ge i ps.length with h | h
    · exact h
    · rw [List.getElem?_eq_none h] at hp; simp at hp
  refine U.succ ?_
  simp only [rescindlaw18_EvalParts.l0]
  have hrd : ps.getD ((i : Int)).toNat ([] : List O) = p := by
    rw [List.getD_eq_getElem?_getD, Int.toNat_natCast, hp]; rfl
  have h' : U (fun k => eval_Eval.f k (ps.getD ((i : Int)).toNat ([] : List O)) row) (outV y) := by rw [hrd]; exact hy
  refine U.pos (by omega) (U.pos (by omega) (U.bind (a := outV y) h' ?_))
  cases y with
  | error e =>
    refine U.neg hg (U.bind live_U (U.pos rfl (U.const ?_)))
    rw [show f = e from h]
    simp [outV]
  | ok y =>
    refine U.pos rfl ?_
    rw [w64 (by omega) (by omega)]
    cases y with
    | num n => exact U.neg (by simp [outV, thVal3]) (U.pos (by omega) h)
    | txt s => exact U.pos rfl (U.pos (by omega) h)
theorem ep_end (q : List O) (o : O) (hl : (q ++ [o]).length ≤ 64) (row : List Vl) (ps : List (List O)) (f : Int) (ag : List O) (i : Int) (hi : ¬ i < (ps.length : Int)) (v : Int × Int × ByteArray) (ha : ag.length < 3) (w : W) (hw : U (fun k => eval_Eval.f k (ag ++ [o]) []) w) (h : w = (v.1, v.2.1, v.2.2, f)) :
    U (fun k => rescindlaw18_EvalParts.l0 k (q ++ [o]) row ps f ag i v.1 v.2.1 v.2.2) true := by
  have hl' := hl
  simp at hl'
  refine U.succ ?_
  simp only [rescindlaw18_EvalParts.l0]
  rw [last_at q o hl]
  refine U.neg hi (U.pos (by rw [last_ix q o hl]; omega) (U.pos (by rw [last_ix q o hl]; simp <;> omega) (U.pos (by omega) (U.bind hw (U.bind live_U (U.pos rfl ?_))))))
  rw [h]
  exact U.pos (by simp) (U.const (by simp))
theorem outV_split (y : Except Int Th) : outV y = ((outV y).1, (outV y).2.1, (outV y).2.2.1, (outV y).2.2.2) := rfl
theorem again_U (o : O) (x : Th) (ho : okW o = true) (ht : takes o.f0 = 1) (hx : VOk x) (hr : R64 o.f1) : U (fun k => eval_Eval.f k [leafOf x, o] []) (outV (evU o.f0 x)) := by
  have hk : (T.u o (.l (leafOf x))).ok := ⟨ho, ht, leaf_ok hx⟩
  have hf := formV_T (T.u o (.l (leafOf x))) hk (by simp [T.fl])
  have h := eval_E (T.u o (.l (leafOf x))).fl [] ⟨by intro y hy; simp [T.fl] at hy; rcases hy with rfl | rfl <;> first | exact leaf_r hx | exact hr, by simp⟩
  rw [evalV_T _ hk [] hf rfl, T.ev_u, leaf_ev] at h
  exact h
theorem again_B (o : O) (x y : Th) (ho : okW o = true) (ht : takes o.f0 = 2) (hx : VOk x) (hy : VOk y) (hr : R64 o.f1) : U (fun k => eval_Eval.f k [leafOf x, leafOf y, o] []) (outV (evB o.f0 x y)) := by
  have hk : (T.b o (.l (leafOf x)) (.l (leafOf y))).ok := ⟨ho, ht, leaf_ok hx, leaf_ok hy⟩
  have hf := formV_T _ hk (by simp [T.fl])
  have h := eval_E (T.b o (.l (leafOf x)) (.l (leafOf y))).fl [] ⟨by intro z hz; simp [T.fl] at hz; rcases hz with rfl | rfl | rfl <;> first | exact leaf_r hx | exact leaf_r hy | exact hr, by simp⟩
  rw [evalV_T _ hk [] hf rfl, T.ev_b, leaf_ev, leaf_ev] at h
  exact h
theorem ep_T (row : List Vl) (hr : ROk row) (t : T) (ht : t.ok) (ho : ∀ o ∈ t.fl, R64 o.f1) (hl : t.fl.length ≤ 64) (hk : t.kids ≠ []) :
    U (fun k => rescindlaw18_EvalParts.l0 k t.fl row t.kids (outV (t.ev row)).2.2.2 [] 0 (outV (t.ev row)).1 (outV (t.ev row)).2.1 (outV (t.ev row)).2.2.1) true := by
  have kid : ∀ s : T, s.ok → (∀ o ∈ s.fl, R64 o.f1) → s.fl.length ≤ 64 → U (fun k => eval_Eval.f k s.fl row) (outV (s.ev row)) := fun s hs hso hsl => by
    have := eval_E s.fl row ⟨hso, hr.r64⟩
    rw [evalV_T s hs row (formV_T s hs hsl) hr.may] at this
    exact this
  cases t with
  | l o => exact absurd rfl hk
  | u o t =>
    have ho' : ∀ o ∈ t.fl, R64 o.f1 := fun o' h' => ho o' (by simp [T.fl, h'])
    have hg := good_ev row hr t ht.2.2 ho'
    have hl' := hl
    simp [T.fl] at hl'
    generalize hV : outV ((T.u o t).ev row) = V
    refine ep_step _ row _ _ [] 0 (V.1, V.2.1, V.2.2.1) t.fl rfl (by omega) (by simp) (t.ev row) hg (kid t ht.2.2 ho' (by omega)) ?_
    rw [T.ev_u] at hV
    cases e : t.ev row with
    | error c => rw [e] at hV; subst hV; rfl
    | ok x =>
      rw [e] at hV hg
      exact ep_end t.fl o hl row _ _ [leafOf x] _ (by simp [T.kids]) (V.1, V.2.1, V.2.2.1) (by simp) V (by rw [← hV]; exact again_U o x ht.1 ht.2.1 hg (ho o (by simp [T.fl]))) rfl
  | b o t s =>
    have ho1 : ∀ o ∈ t.fl, R64 o.f1 := fun o' h' => ho o' (by simp [T.fl, h'])
    have ho2 : ∀ o ∈ s.fl, R64 o.f1 := fun o' h' => ho o' (by simp [T.fl, h'])
    have hg1 := good_ev row hr t ht.2.2.1 ho1
    have hg2 := good_ev row hr s ht.2.2.2 ho2
    have hl' := hl
    simp [T.fl] at hl'
    generalize hV : outV ((T.b o t s).ev row) = V
    refine ep_step _ row _ _ [] 0 (V.1, V.2.1, V.2.2.1) t.fl rfl (by omega) (by simp) (t.ev row) hg1 (kid t ht.2.2.1 ho1 (by omega)) ?_
    rw [T.ev_b] at hV
    cases e : t.ev row with
    | error c => rw [e] at hV; subst hV; rfl
    | ok x =>
      rw [e] at hV hg1
      refine ep_step _ row _ _ [leafOf x] 1 (V.1, V.2.1, V.2.2.1) s.fl rfl (by omega) (by simp) (s.ev row) hg2 (kid s ht.2.2.2 ho2 (by omega)) ?_
      dsimp only at hV
      cases e' : s.ev row with
      | error c => rw [e'] at hV; subst hV; rfl
      | ok y =>
        rw [e'] at hV hg2
        have hfl : (T.b o t s).fl = (t.fl ++ s.fl) ++ [o] := by simp [T.fl]
        rw [hfl] at hl
        show U (fun k => rescindlaw18_EvalParts.l0 k (T.b o t s).fl _ _ _ _ _ _ _ _) _
        rw [hfl]
        exact ep_end (t.fl ++ s.fl) o hl row _ _ [leafOf x, leafOf y] _ (by simp [T.kids]) (V.1, V.2.1, V.2.2.1) (by simp) V (by rw [← hV]; exact again_B o x y ht.1 ht.2.1 hg1 hg2 (ho o (by simp [T.fl]))) rfl
theorem parts_law (x : List O) (row : List Vl) (h : XOk x row) : U (fun k => rescindlaw18_EvalParts.f k x row) true := by
  unfold rescindlaw18_EvalParts.f
  by_cases h0 : formV x = 0
  · obtain ⟨t, ht, rfl, hl⟩ := formV_0 h0
    refine U.bind (parts_E t ht h0 hl) (U.bind (eval_E _ row h) (U.pos rfl ?_))
    by_cases h2 : (evalV t.fl row).2.2.2 = 2
    · refine U.pos h2 ?_
      exact j0_true t.fl row t.kids 0 _ ((evalV t.fl row).1, (evalV t.fl row).2.1, (evalV t.fl row).2.2.1) (.inl rfl)
    · refine U.neg h2 ?_
      by_cases hk : t.kids = []
      · rw [hk]
        exact j0_true t.fl row [] 0 _ ((evalV t.fl row).1, (evalV t.fl row).2.1, (evalV t.fl row).2.2.1) (.inl rfl)
      · have hne : ((t.kids.length : Int) == 0) = false := by
          have : t.kids.length ≠ 0 := fun e => hk (List.eq_nil_of_length_eq_zero e)
          simp; omega
        show U (fun k => rescindlaw18_EvalParts.j0 k t.fl row t.kids 0 _ ((t.kids.length : Int) == 0) _ _ _) true
        rw [hne]
        refine U.succ ?_
        simp only [rescindlaw18_EvalParts.j0]
        refine U.neg (by simp) ?_
        have hm : rowMay row = true := by
          cases hm : rowMay row with
          | true => rfl
          | false =>
            exfalso
            apply h2
            unfold evalV
            rw [if_neg (by simpa using h0), if_pos hm]
        rw [evalV_T t ht row h0 hm]
        exact ep_T row ⟨hm, h.row⟩ t ht h.x hl hk
  · have hp : U (fun k => expr_Parts.f k x) (([] : List (List O)), formV x) := by
      refine U.bind (form_E x) (U.neg h0 (U.some _))
    have he : evalV x row = (0, 0, ⟨#[]⟩, formV x) := by unfold evalV; rw [if_pos h0]
    refine U.bind hp (U.bind (eval_E _ row h) (U.neg h0 ?_))
    rw [he]
    exact j0_true x row [] (formV x) (formV x) (0, 0, ⟨#[]⟩) (.inr rfl)
theorem parts_walk (A0 : Option Addr) (c0 : Nat) (l0 : List O) (A1 : Option Addr) (c1 : Nat) (l1 : List Vl) (w : World)
    (hr0 : Kd.C k41 w A0 l0.length l0) (hc0 : l0.length ≤ c0)
    (h0 : (∀ x ∈ l0, (Lit.int .i64 x.f0).wf = true ∧ (Lit.int .i64 x.f1).wf = true ∧ x.f2.size ≤ maxLen) ∧ l0.length ≤ maxLen)
    (hr1 : Kd.C k28 w A1 l1.length l1) (hc1 : l1.length ≤ c1)
    (h1 : (∀ x ∈ l1, (Lit.int .i64 x.f0).wf = true ∧ (Lit.int .i64 x.f1).wf = true ∧ x.f2.size ≤ maxLen) ∧ l1.length ≤ maxLen) :
    Calls Try.prog 4 #[.slice A0 l0.length c0, .slice A1 l1.length c1] w fun e w' => e = .returned (.bool true) ∧ Below w.heap.size w w' := by
  obtain ⟨k, hk⟩ := (parts_law l0 l1 ⟨fun o ho => R64.of_wf (h0.1 o ho).2.1, fun v hv => R64.of_wf (h1.1 v hv).2.1⟩).get
  exact rescindlaw18_EvalParts.calls k A0 c0 l0 A1 c1 l1 true w hr0 hc0 hr1 hc1 hk
end Go.Proofs.Ytbjbnlngdkkidaa.EvP
