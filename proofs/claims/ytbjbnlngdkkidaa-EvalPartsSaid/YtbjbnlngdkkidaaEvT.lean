/- Tail, Form and Parts of the reference, over trees of words. -/
import Derived.Test.YtbjbnlngdkkidaaEvP
import Derived.Test.YtbjbnlngdkkidaaPEvx6
namespace Go.Proofs.Ytbjbnlngdkkidaa.EvP
open Go.RowKit Go.Proofs.YtbjbnlngdkkidaaW.PrintWords Go.Proofs.YtbjbnlngdkkidaaW.PrintLast Go.Proofs.YtbjbnlngdkkidaaW.PrintMore
open Go.Proofs.Ytbjbnlngdkkidaa.PEv
set_option linter.unusedSimpArgs false
set_option linter.unusedVariables false
theorem last_ix (q : List O) (o : O) (hl : (q ++ [o]).length ≤ 64) : wrap64 (((q ++ [o]).length : Int) - 1) = (q.length : Int) := by
  simp at hl
  rw [w64 (by simp <;> omega) (by simp <;> omega)]; simp
theorem last_at (q : List O) (o : O) (hl : (q ++ [o]).length ≤ 64) : rd_T41 (q ++ [o]) (wrap64 (((q ++ [o]).length : Int) - 1)) = o := by
  rw [last_ix q o hl]
  exact rd_at q o []
theorem tl_head (q : List O) (o : O) (hl : (q ++ [o]).length ≤ 64) (n i r : Int)
    (h : U (fun k => if i < takes o.f0 then (if 0 ≤ (wrap64 (((q ++ [o]).length : Int) - n)) then (if (wrap64 (((q ++ [o]).length : Int) - n)) ≤ ((q ++ [o]).length : Int) then ((rescindref17_Tail.f k ((q ++ [o]).take ((wrap64 (((q ++ [o]).length : Int) - n)) : Int).toNat)).bind fun t => (if t = 0 then (some 0) else (rescindref17_Tail.l0 k (q ++ [o]) (wrap64 (n + t)) (wrap64 (i + 1))))) else (none)) else (none)) else (some n)) r) :
    U (fun k => rescindref17_Tail.l0 k (q ++ [o]) n i) r := by
  have hl' := hl
  simp at hl'
  refine U.succ ?_
  simp only [rescindref17_Tail.l0]
  rw [last_at q o hl]
  refine U.pos (by rw [last_ix q o hl]; omega) (U.pos (by rw [last_ix q o hl]; simp; omega) (U.bind (takes_R o.f0) h))
theorem tl_done (q : List O) (o : O) (hl : (q ++ [o]).length ≤ 64) (n i : Int) (h : ¬ i < takes o.f0) : U (fun k => rescindref17_Tail.l0 k (q ++ [o]) n i) n :=
  tl_head q o hl n i n (U.neg h (U.some _))
theorem tl_more (q : List O) (o : O) (hl : (q ++ [o]).length ≤ 64) (p ys : List O) (hx : q ++ [o] = p ++ ys) (i r m : Int) (h : i < takes o.f0) (hi : 0 ≤ i ∧ i ≤ 2) (ht : U (fun k => rescindref17_Tail.f k p) m)
    (hm : 0 ≤ m ∧ m ≤ 64) (hr : if m = 0 then r = 0 else U (fun k => rescindref17_Tail.l0 k (q ++ [o]) ((ys.length : Int) + m) (i + 1)) r) :
    U (fun k => rescindref17_Tail.l0 k (q ++ [o]) (ys.length : Int) i) r := by
  have hlen : (q ++ [o]).length = p.length + ys.length := by rw [hx]; simp
  have hw : wrap64 (((q ++ [o]).length : Int) - (ys.length : Int)) = (p.length : Int) := by rw [w64 (by omega) (by omega)]; omega
  refine tl_head q o hl _ i r (U.pos h ?_)
  rw [hw]
  have htk : (q ++ [o]).take ((p.length : Int)).toNat = p := by rw [hx]; simp
  rw [htk]
  refine U.pos (by omega) (U.pos (by omega) (U.bind ht ?_))
  by_cases h0 : m = 0
  · rw [if_pos h0] at hr
    rw [hr]
    exact U.pos h0 (U.some _)
  · rw [if_neg h0] at hr
    refine U.neg h0 ?_
    rw [w64 (by omega) (by omega), w64 (by omega) (by omega)]
    exact hr
theorem tail_nil : U (fun k => rescindref17_Tail.f k []) 0 := by
  refine U.succ ?_
  simp only [rescindref17_Tail.f]
  refine U.pos (by simp) (U.succ ?_)
  simp only [rescindref17_Tail.j0]
  exact U.pos trivial (U.some _)
theorem tail_word (q : List O) (o : O) (hl : (q ++ [o]).length ≤ 64) (r : Int) (h : if okW o = true then U (fun k => rescindref17_Tail.l0 k (q ++ [o]) 1 0) r else r = 0) : U (fun k => rescindref17_Tail.f k (q ++ [o])) r := by
  have hl' := hl
  simp at hl'
  refine U.succ ?_
  simp only [rescindref17_Tail.f]
  rw [last_at q o hl]
  refine U.neg (by simp; omega) (U.pos (by rw [last_ix q o hl]; omega) (U.pos (by rw [last_ix q o hl]; simp; omega) (U.bind (word_R o) (U.succ ?_))))
  simp only [rescindref17_Tail.j0]
  by_cases hw : okW o = true
  · rw [if_pos hw] at h
    exact U.neg (by simp [hw]) h
  · rw [if_neg hw] at h
    rw [h]
    exact U.pos (by simp [hw]) (U.some _)
theorem tail_C : ∀ (t : T), t.ok → ∀ p : List O, (p ++ t.fl).length ≤ 64 → U (fun k => rescindref17_Tail.f k (p ++ t.fl)) (t.fl.length : Int)
  | .l o, h, p, hl => by
    refine tail_word p o hl _ ?_
    rw [if_pos h.1]
    exact tl_done p o hl 1 0 (by rw [h.2]; omega)
  | .u o t, h, p, hl => by
    have e : p ++ (T.u o t).fl = (p ++ t.fl) ++ [o] := by simp [T.fl]
    have hn : ((T.u o t).fl.length : Int) = (([o] : List O).length : Int) + (t.fl.length : Int) := by simp [T.fl]; omega
    have hp := t.fl_pos
    rw [e] at hl ⊢
    have hl' := hl
    simp at hl'
    have h1 := h.2.1
    refine tail_word _ o hl _ ?_
    rw [if_pos h.1]
    refine tl_more _ o hl (p ++ t.fl) [o] rfl 0 _ (t.fl.length : Int) (by omega) (by omega) (tail_C t h.2.2 p (by simp; omega)) (by omega) ?_
    rw [if_neg (by omega), hn]
    exact tl_done _ o hl _ _ (by omega)
  | .b o t s, h, p, hl => by
    have e : p ++ (T.b o t s).fl = ((p ++ t.fl) ++ s.fl) ++ [o] := by simp [T.fl]
    have hn : ((T.b o t s).fl.length : Int) = ((s.fl ++ [o]).length : Int) + (t.fl.length : Int) := by simp [T.fl]; omega
    have hn2 : ((s.fl ++ [o]).length : Int) = (([o] : List O).length : Int) + (s.fl.length : Int) := by simp; omega
    have hp := t.fl_pos
    have hq := s.fl_pos
    rw [e] at hl ⊢
    have hl' := hl
    simp at hl'
    have h1 := h.2.1
    refine tail_word _ o hl _ ?_
    rw [if_pos h.1]
    refine tl_more _ o hl ((p ++ t.fl) ++ s.fl) [o] rfl 0 _ (s.fl.length : Int) (by omega) (by omega) (tail_C s h.2.2.2 (p ++ t.fl) (by simp; omega)) (by omega) ?_
    rw [if_neg (by omega), ← hn2]
    refine tl_more _ o hl (p ++ t.fl) (s.fl ++ [o]) (by simp) (0 + 1) _ (t.fl.length : Int) (by omega) (by omega) (tail_C t h.2.2.1 p (by simp; omega)) (by omega) ?_
    rw [if_neg (by omega), ← hn]
    exact tl_done _ o hl _ _ (by omega)
theorem tail_S : ∀ (n : Nat) (x : List O), x.length ≤ n → x.length ≤ 64 → ∃ r : Int, U (fun k => rescindref17_Tail.f k x) r ∧ 0 ≤ r ∧ r ≤ 64 ∧ (r = 0 ∨ ∃ p t, T.ok t ∧ x = p ++ t.fl ∧ r = (t.fl.length : Int))
  | 0, x, h, _ => by
    obtain rfl : x = [] := List.eq_nil_of_length_eq_zero (by omega)
    exact ⟨0, tail_nil, by omega, by omega, .inl rfl⟩
  | n + 1, x, h, hl => by
    rcases List.eq_nil_or_concat x with rfl | ⟨q, o, hq⟩
    · exact ⟨0, tail_nil, by omega, by omega, .inl rfl⟩
    rw [List.concat_eq_append] at hq
    subst hq
    have hl' := hl
    have h' := h
    simp at hl' h'
    by_cases hw : okW o = true
    · have wrd : ∀ r, U (fun k => rescindref17_Tail.l0 k (q ++ [o]) 1 0) r → U (fun k => rescindref17_Tail.f k (q ++ [o])) r := fun r hr => tail_word q o hl r (by rw [if_pos hw]; exact hr)
      rcases okW_takes hw with h0 | h0 | h0
      · exact ⟨1, wrd _ (tl_done q o hl 1 0 (by omega)), by omega, by omega, .inr ⟨q, .l o, ⟨hw, h0⟩, rfl, rfl⟩⟩
      · obtain ⟨m, hm, m0, m1, hc⟩ := tail_S n q (by omega) (by omega)
        rcases hc with rfl | ⟨p, t, ht, rfl, rfl⟩
        · exact ⟨0, wrd _ (tl_more q o hl q [o] rfl 0 0 0 (by omega) (by omega) hm (by omega) (by rw [if_pos rfl])), by omega, by omega, .inl rfl⟩
        · have hp := t.fl_pos
          simp at hl'
          refine ⟨(([o] : List O).length : Int) + (t.fl.length : Int), wrd _ (tl_more _ o hl (p ++ t.fl) [o] rfl 0 _ (t.fl.length : Int) (by omega) (by omega) hm (by omega) ?_), by omega, by simp; omega, .inr ⟨p, .u o t, ⟨hw, h0, ht⟩, by simp [T.fl], by simp [T.fl]; omega⟩⟩
          rw [if_neg (by omega)]
          exact tl_done _ o hl _ _ (by omega)
      · obtain ⟨m, hm, m0, m1, hc⟩ := tail_S n q (by omega) (by omega)
        rcases hc with rfl | ⟨p, s, hs, rfl, rfl⟩
        · exact ⟨0, wrd _ (tl_more q o hl q [o] rfl 0 0 0 (by omega) (by omega) hm (by omega) (by rw [if_pos rfl])), by omega, by omega, .inl rfl⟩
        · have hp := s.fl_pos
          simp at hl' h'
          have hn2 : ((s.fl ++ [o]).length : Int) = (([o] : List O).length : Int) + (s.fl.length : Int) := by simp; omega
          obtain ⟨m', hm', m0', m1', hc'⟩ := tail_S n p (by omega) (by omega)
          rcases hc' with rfl | ⟨p', t, ht, rfl, rfl⟩
          · refine ⟨0, wrd _ (tl_more _ o hl (p ++ s.fl) [o] rfl 0 _ (s.fl.length : Int) (by omega) (by omega) hm (by omega) ?_), by omega, by omega, .inl rfl⟩
            rw [if_neg (by omega), ← hn2]
            exact tl_more _ o hl p (s.fl ++ [o]) (by simp) (0 + 1) _ 0 (by omega) (by omega) hm' (by omega) (by rw [if_pos rfl])
          · have hq := t.fl_pos
            simp at hl' h'
            refine ⟨((s.fl ++ [o]).length : Int) + (t.fl.length : Int), wrd _ (tl_more _ o hl ((p' ++ t.fl) ++ s.fl) [o] rfl 0 _ (s.fl.length : Int) (by omega) (by omega) hm (by omega) ?_), by omega, by simp; omega, .inr ⟨p', .b o t s, ⟨hw, h0, ht, hs⟩, by simp [T.fl], by simp [T.fl]; omega⟩⟩
            rw [if_neg (by omega), ← hn2]
            refine tl_more _ o hl (p' ++ t.fl) (s.fl ++ [o]) (by simp) (0 + 1) _ (t.fl.length : Int) (by omega) (by omega) hm' (by omega) ?_
            rw [if_neg (by omega)]
            exact tl_done _ o hl _ _ (by omega)
    · exact ⟨0, tail_word q o hl 0 (by rw [if_neg hw]), by omega, by omega, .inl rfl⟩
theorem form_R (x : List O) : U (fun k => rescindref17_Form.f k x) (formV x) := by
  unfold rescindref17_Form.f formV
  by_cases h : x.length > 64
  · rw [if_pos h]; exact U.pos (by omega) (U.some _)
  rw [if_neg h]
  refine U.neg (by omega) ?_
  by_cases h0 : x = []
  · subst h0; exact U.pos (by simp) (U.some _)
  have hx0 : x.length ≠ 0 := fun e => h0 (List.eq_nil_of_length_eq_zero e)
  refine U.neg (by omega) ?_
  obtain ⟨r, hr, r0, r1, hc⟩ := tail_S x.length x (Nat.le_refl _) (by omega)
  refine U.bind hr ?_
  by_cases he : r = (x.length : Int)
  · rw [if_pos he]
    rcases hc with rfl | ⟨p, t, ht, hx, hrt⟩
    · exact absurd he (by omega)
    have hp : p = [] := by
      apply List.eq_nil_of_length_eq_zero
      have := congrArg List.length hx
      simp at this
      omega
    subst hp
    have := parse_fl t ht [] []
    rw [List.append_nil] at this
    rw [List.nil_append] at hx
    rw [hx, this]
    exact U.some _
  · rw [if_neg he]
    rcases formR_or (parse x []) with h1 | h1
    · exfalso
      obtain ⟨t, ht⟩ := formR_0 h1
      obtain ⟨tk, hxt⟩ := parse_one ht
      have := tail_C t tk [] (by rw [← hxt]; simp; omega)
      rw [List.nil_append, ← hxt] at this
      exact he (hr.uniq this)
    · rw [h1]; exact U.some _
theorem formV_0 {x : List O} (h : formV x = 0) : ∃ t, T.ok t ∧ x = t.fl ∧ x.length ≤ 64 := by
  unfold formV at h
  split at h
  · simp at h
  · obtain ⟨t, ht⟩ := formR_0 h
    exact ⟨t, (parse_one ht).1, (parse_one ht).2, by omega⟩
def T.kids : T → List (List O)
  | .l _ => []
  | .u _ t => [t.fl]
  | .b _ t s => [t.fl, s.fl]
def T.top : T → O
  | .l o => o
  | .u o _ => o
  | .b o _ _ => o
theorem T.fl_top (t : T) : ∃ q, t.fl = q ++ [t.top] := by
  cases t with
  | l o => exact ⟨[], rfl⟩
  | u o t => exact ⟨t.fl, rfl⟩
  | b o t s => exact ⟨t.fl ++ s.fl, by simp [T.fl, T.top]⟩
theorem pl_done (q : List O) (o : O) (hl : (q ++ [o]).length ≤ 64) (out : List (List O)) (rest : List O) (i : Int) (h : ¬ i < takes o.f0) : U (fun k => rescindref17_Parts.l0 k (q ++ [o]) out rest i) out := by
  have hl' := hl
  simp at hl'
  refine U.succ ?_
  simp only [rescindref17_Parts.l0]
  rw [last_at q o hl]
  exact U.pos (by rw [last_ix q o hl]; omega) (U.pos (by rw [last_ix q o hl]; simp; omega) (U.bind (takes_R o.f0) (U.neg h (U.some _))))
theorem pl_more (q : List O) (o : O) (hl : (q ++ [o]).length ≤ 64) (out : List (List O)) (ho : out.length ≤ 2) (p : List O) (t : T) (ht : t.ok) (hp : (p ++ t.fl).length ≤ 64) (i : Int) (hi : 0 ≤ i ∧ i ≤ 2) (h : i < takes o.f0) (r : List (List O))
    (hr : U (fun k => rescindref17_Parts.l0 k (q ++ [o]) ([t.fl] ++ out) p (i + 1)) r) : U (fun k => rescindref17_Parts.l0 k (q ++ [o]) out (p ++ t.fl) i) r := by
  have hl' := hl
  have hp' := hp
  simp at hl' hp'
  have hw : wrap64 (((p ++ t.fl).length : Int) - (t.fl.length : Int)) = (p.length : Int) := by rw [w64 (by simp <;> omega) (by simp <;> omega)]; simp
  refine U.succ ?_
  simp only [rescindref17_Parts.l0]
  rw [last_at q o hl]
  refine U.pos (by rw [last_ix q o hl]; omega) (U.pos (by rw [last_ix q o hl]; simp; omega) (U.bind (takes_R o.f0) (U.pos h (U.bind (tail_C t ht p hp) ?_))))
  rw [hw]
  have hd : (p ++ t.fl).drop ((p.length : Int)).toNat = t.fl := by simp
  have hk : (p ++ t.fl).take ((p.length : Int)).toNat = p := by simp
  rw [hd, hk]
  refine U.bind (U.some _) (U.pos (by omega) (U.pos (by simp <;> omega) (U.bind (U.some _) (U.pos (by simp <;> omega) (U.bind (U.some _) (U.pos (by simp <;> omega) ?_))))))
  rw [w64 (by omega) (by omega)]
  exact hr
theorem parts_T (t : T) (ht : t.ok) (hl : t.fl.length ≤ 64) : U (fun k => rescindref17_Parts.f k t.fl) t.kids := by
  obtain ⟨q, hq⟩ := t.fl_top
  have hl' := hl
  rw [hq] at hl'
  have hl'' := hl'
  simp at hl''
  have start : ∀ r, U (fun k => rescindref17_Parts.l0 k (q ++ [t.top]) [] q 0) r → U (fun k => rescindref17_Parts.f k (q ++ [t.top])) r := by
    intro r h
    unfold rescindref17_Parts.f
    rw [last_ix q _ hl']
    have hk : (q ++ [t.top]).take ((q.length : Int)).toNat = q := by simp
    rw [hk]
    exact U.pos (by omega) (U.pos (by simp; omega) h)
  rw [hq]
  refine start _ ?_
  cases t with
  | l o =>
    have h1 := ht.2
    exact pl_done q _ hl' _ _ _ (by simp only [T.top]; omega)
  | u o t =>
    have hqq : q = t.fl := List.append_inj_left' (s₂ := t.fl) (t₁ := [o]) (t₂ := [o]) (by rw [← show (T.u o t).top = o from rfl]; exact hq.symm) rfl
    have h1 := ht.2.1
    subst hqq
    have := pl_more t.fl o hl' [] (by simp) [] t ht.2.2 (by simp; omega) 0 (by omega) (by omega) [t.fl] (pl_done t.fl o hl' _ _ _ (by omega))
    exact this
  | b o t s =>
    have hqq : q = t.fl ++ s.fl := List.append_inj_left' (s₂ := t.fl ++ s.fl) (t₁ := [o]) (t₂ := [o]) (by rw [← show (T.b o t s).top = o from rfl]; rw [← hq]; simp [T.fl]; rfl) rfl
    have h1 := ht.2.1
    subst hqq
    simp at hl''
    refine pl_more (t.fl ++ s.fl) o hl' [] (by simp) t.fl s ht.2.2.2 (by simp; omega) 0 (by omega) (by omega) _ ?_
    have := pl_more (t.fl ++ s.fl) o hl' ([s.fl] ++ []) (by simp) [] t ht.2.2.1 (by simp; omega) (0 + 1) (by omega) (by omega) [t.fl, s.fl] (pl_done (t.fl ++ s.fl) o hl' _ _ _ (by omega))
    exact this
end Go.Proofs.Ytbjbnlngdkkidaa.EvP
