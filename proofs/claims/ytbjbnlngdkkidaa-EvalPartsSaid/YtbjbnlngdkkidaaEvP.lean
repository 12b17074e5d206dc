/- Words as trees; both Forms answer alike. -/
import Derived.Test.YtbjbnlngdkkidaaPEvx2
import Derived.Test.YtbjbnlngdkkidaaPEvx6
import Derived.Laws.Closers25b
namespace Go.Proofs.Ytbjbnlngdkkidaa.EvP
open Go.RowKit Go.Proofs.YtbjbnlngdkkidaaW.PrintWords Go.Proofs.YtbjbnlngdkkidaaW.PrintLast Go.Proofs.YtbjbnlngdkkidaaW.PrintMore
open Go.Proofs.Ytbjbnlngdkkidaa.PEv
set_option linter.unusedSimpArgs false
abbrev O := S41
abbrev Vl := S28
def U {α : Type} (f : Nat → Option α) (r : α) : Prop := ∃ k0, ∀ k, k0 ≤ k → f k = some r
theorem U.succ {α : Type} {f : Nat → Option α} {r : α} (h : U (fun k => f (k + 1)) r) : U f r := by
  obtain ⟨k0, h⟩ := h
  refine ⟨k0 + 1, fun k hk => ?_⟩
  obtain ⟨j, rfl⟩ : ∃ j, k = j + 1 := ⟨k - 1, by omega⟩
  exact h j (by omega)
theorem U.some {α : Type} (r : α) : U (fun _ => some r) r := ⟨0, fun _ _ => rfl⟩
theorem U.const {α : Type} {x : Option α} {r : α} (h : x = Option.some r) : U (fun _ => x) r := ⟨0, fun _ _ => h⟩
theorem U.bind {α β : Type} {f : Nat → Option α} {a : α} {g : Nat → α → Option β} {r : β} (hf : U f a) (hg : U (fun k => g k a) r) : U (fun k => (f k).bind (g k)) r := by
  obtain ⟨k0, h0⟩ := hf
  obtain ⟨k1, h1⟩ := hg
  refine ⟨max k0 k1, fun k hk => ?_⟩
  show (f k).bind (g k) = _
  rw [h0 k (by omega)]
  exact h1 k (by omega)
theorem U.map {α β : Type} {f : Nat → Option α} {a : α} {g : α → β} (hf : U f a) : U (fun k => (f k).map g) (g a) := by
  obtain ⟨k0, h0⟩ := hf
  exact ⟨k0, fun k hk => by show (f k).map g = _; rw [h0 k hk]; rfl⟩
theorem U.congr {α : Type} {f g : Nat → Option α} {r : α} (h : U f r) (e : ∀ k, g k = f k) : U g r := by
  obtain ⟨k0, h0⟩ := h
  exact ⟨k0, fun k hk => (e k).trans (h0 k hk)⟩
theorem U.congr_r {α : Type} {f : Nat → Option α} {r s : α} (h : U f r) (e : r = s) : U f s := e ▸ h
theorem U.uniq {α : Type} {f : Nat → Option α} {r s : α} (h : U f r) (g : U f s) : r = s := by
  obtain ⟨k0, h0⟩ := h
  obtain ⟨k1, h1⟩ := g
  exact Option.some.inj ((h0 (max k0 k1) (by omega)).symm.trans (h1 (max k0 k1) (by omega)))
theorem U.of_mono {α : Type} {f : Nat → Option α} {r : α} (m : ∀ k, LeO (f k) (f (k + 1))) {k : Nat} (h : f k = Option.some r) : U f r := by
  refine ⟨k, fun j hj => ?_⟩
  obtain ⟨d, rfl⟩ : ∃ d, j = k + d := ⟨j - k, by omega⟩
  clear hj
  induction d with
  | zero => exact h
  | succ d ih => exact m (k + d) _ ih
theorem U.pos {α : Type} {c : Prop} [Decidable c] {f g : Nat → Option α} {r : α} (h : c) (hf : U f r) : U (fun k => if c then f k else g k) r := hf.congr fun _ => if_pos h
theorem U.neg {α : Type} {c : Prop} [Decidable c] {f g : Nat → Option α} {r : α} (h : ¬ c) (hf : U g r) : U (fun k => if c then f k else g k) r := hf.congr fun _ => if_neg h
theorem U.get {α : Type} {f : Nat → Option α} {r : α} (h : U f r) : ∃ k, f k = Option.some r := by
  obtain ⟨k0, h0⟩ := h
  exact ⟨k0, h0 k0 (Nat.le_refl _)⟩
theorem w64 {x : Int} (h0 : -9223372036854775808 ≤ x) (h1 : x ≤ 9223372036854775807) : wrap64 x = x := by unfold wrap64; omega
def takes (c : Int) : Int := if c < 1 ∨ c > 20 then -1 else if c ≤ 3 then 0 else if c ≤ 6 then 1 else 2
theorem takes_E (c : Int) : U (fun k => expr_Takes.f k c) (takes c) := by
  refine ⟨3, fun k hk => ?_⟩
  obtain ⟨j, rfl⟩ : ∃ j, k = j + 3 := ⟨k - 3, by omega⟩
  show expr_Takes.f (j + 3) c = _
  unfold expr_Takes.f takes
  simp only [expr_Takes.j0, expr_Takes.j1, decide_eq_true_eq, Bool.false_eq_true, if_false]
  repeat' split
  all_goals first | rfl | (exfalso; omega)
theorem takes_R (c : Int) : U (fun k => rescindref17_Takes.f k c) (takes c) := by
  refine ⟨3, fun k hk => ?_⟩
  obtain ⟨j, rfl⟩ : ∃ j, k = j + 3 := ⟨k - 3, by omega⟩
  show rescindref17_Takes.f (j + 3) c = _
  unfold rescindref17_Takes.f takes
  simp only [rescindref17_Takes.j0, decide_eq_true_eq, Bool.false_eq_true, if_false, if_true]
  repeat' split
  all_goals first | rfl | (exfalso; omega)
def noT (t : ByteArray) : Bool := t.toList == ([] : List UInt8)
def okW (o : O) : Bool :=
  if o.f0 = 1 then noT o.f2 else if o.f0 = 2 then decide (o.f1 = 0 ∧ o.f2.size ≤ 64) else if o.f0 = 3 then decide (0 ≤ o.f1 ∧ o.f1 < 8) && noT o.f2
  else decide (0 ≤ takes o.f0 ∧ o.f1 = 0) && noT o.f2
theorem word_E (o : O) : U (fun k => expr_word.f k o.f0 o.f1 o.f2) (okW o) := by
  obtain ⟨c, n, t⟩ := o
  unfold expr_word.f okW noT
  simp only
  by_cases h1 : c = 1
  · refine U.pos h1 ?_; rw [if_pos h1]; exact U.some _
  refine U.neg h1 ?_; rw [if_neg h1]
  by_cases h2 : c = 2
  · refine U.pos h2 ?_; rw [if_pos h2]
    by_cases h3 : n = 0
    · refine U.pos h3 ?_; refine U.const ?_; congr 1; simp [h3]; omega
    · refine U.neg h3 ?_; refine U.const ?_; congr 1; simp [h3]
  refine U.neg h2 ?_; rw [if_neg h2]
  by_cases h3 : c = 3
  · refine U.pos h3 ?_; rw [if_pos h3]
    by_cases h4 : n ≥ 0
    · refine U.pos h4 ?_
      by_cases h5 : n < 8
      · refine U.pos h5 ?_; refine U.const ?_; simp [h5]; omega
      · refine U.neg h5 ?_; refine U.const ?_; simp [h5]
    · refine U.neg h4 ?_; refine U.const ?_; simp; omega
  refine U.neg h3 ?_; rw [if_neg h3]
  refine U.bind (takes_E c) ?_
  by_cases h4 : takes c ≥ 0
  · refine U.pos h4 ?_
    by_cases h5 : n = 0
    · refine U.pos h5 ?_; refine U.const ?_; simp [h5]; omega
    · refine U.neg h5 ?_; refine U.const ?_; simp [h5]
  · refine U.neg h4 ?_; refine U.const ?_; simp; omega
theorem word_R (o : O) : U (fun k => rescindref17_Word.f k o.f0 o.f1 o.f2) (okW o) := by
  obtain ⟨c, n, t⟩ := o
  refine U.bind (takes_R c) ?_
  unfold okW noT
  simp only
  have ht : takes c < 0 ↔ (c < 1 ∨ c > 20) := by unfold takes; repeat' split
                                                 all_goals omega
  by_cases h1 : takes c < 0
  · refine U.pos h1 ?_
    refine U.const ?_
    have := ht.1 h1
    rw [if_neg (by omega), if_neg (by omega), if_neg (by omega)]
    simp; omega
  refine U.neg h1 ?_
  have hj : ∀ b : Bool, U (fun k => rescindref17_Word.j0 k b c n t) (if b then false else if c = 1 then true else if c = 3 then decide (0 ≤ n ∧ n < 8) else n == 0) := by
    intro b
    refine U.succ ?_
    simp only [rescindref17_Word.j0]
    by_cases hb : b = true
    · refine U.pos hb ?_; subst hb; exact U.some _
    refine U.neg hb ?_
    rw [if_neg hb]
    by_cases c1 : c = 1
    · refine U.pos c1 ?_; rw [if_pos c1]; exact U.some _
    refine U.neg c1 ?_
    rw [if_neg c1]
    by_cases c3 : c = 3
    · refine U.pos c3 ?_; rw [if_pos c3]
      by_cases n0 : n ≥ 0
      · refine U.pos n0 ?_
        refine U.const ?_
        congr 1
        simp; omega
      · refine U.neg n0 ?_
        refine U.const ?_
        congr 1
        simp; omega
    refine U.neg c3 ?_
    rw [if_neg c3]
    exact U.some _
  by_cases h2 : c = 2
  · subst h2
    refine U.pos rfl ?_
    have := hj (decide ((t.size : Int) > 64))
    refine this.congr_r ?_
    by_cases hs : t.size ≤ 64
    · rw [if_neg (by simp; omega)]; simp [hs]
      by_cases hn : n = 0 <;> simp [hn]
    · rw [if_pos (by simp; omega)]; simp [hs]
  refine U.neg h2 ?_
  rw [if_neg h2]
  by_cases ht0 : t.toList = []
  · refine U.pos ht0 ?_
    have hsz : t.size = 0 := by rw [(toList_nil_iff_emptyBytes t).1 ht0]; rfl
    have := hj (decide ((t.size : Int) > 64))
    refine this.congr_r ?_
    rw [hsz, ht0]
    rw [if_neg (by simp)]
    by_cases c1 : c = 1
    · simp [c1]
    rw [if_neg c1, if_neg c1]
    by_cases c3 : c = 3
    · simp [c3]
    rw [if_neg c3, if_neg c3]
    have : 0 ≤ takes c := by omega
    by_cases hn : n = 0 <;> simp [hn, this]
  · refine U.neg ht0 ?_
    refine (hj true).congr_r ?_
    rw [if_pos rfl]
    by_cases c1 : c = 1
    · simp [c1, ht0]
    rw [if_neg c1]
    by_cases c3 : c = 3
    · simp [c3, ht0]
    rw [if_neg c3]
    simp [ht0]
inductive T where
  | l (o : O)
  | u (o : O) (t : T)
  | b (o : O) (t s : T)
def T.fl : T → List O
  | .l o => [o]
  | .u o t => t.fl ++ [o]
  | .b o t s => t.fl ++ (s.fl ++ [o])
def T.ok : T → Prop
  | .l o => okW o = true ∧ takes o.f0 = 0
  | .u o t => okW o = true ∧ takes o.f0 = 1 ∧ t.ok
  | .b o t s => okW o = true ∧ takes o.f0 = 2 ∧ t.ok ∧ s.ok
theorem T.fl_pos (t : T) : 0 < t.fl.length := by cases t <;> simp [T.fl] <;> omega
theorem okW_takes {o : O} (h : okW o = true) : takes o.f0 = 0 ∨ takes o.f0 = 1 ∨ takes o.f0 = 2 := by
  obtain ⟨c, n, t⟩ := o
  have : takes c = -1 ∨ takes c = 0 ∨ takes c = 1 ∨ takes c = 2 := by unfold takes; repeat' split
                                                                      all_goals simp
  rcases this with h1 | h1
  · exfalso
    have hc : c < 1 ∨ c > 20 := by
      unfold takes at h1
      split at h1
      · assumption
      · split at h1
        · simp at h1
        · split at h1 <;> simp at h1
    unfold okW at h
    simp only at h
    rw [if_neg (by omega), if_neg (by omega), if_neg (by omega), h1] at h
    simp at h
  · exact h1
def push (o : O) (st : List T) : Option (List T) :=
  if okW o = true then (if takes o.f0 = 0 then some (.l o :: st) else if takes o.f0 = 1 then (match st with
      | t :: st => some (.u o t :: st)
      | [] => none) else (match st with
      | s :: t :: st => some (.b o t s :: st)
      | _ => none)) else none
def parse : List O → List T → Option (List T)
  | [], st => some st
  | o :: os, st => (push o st).bind (parse os)
theorem parse_cons (o : O) (os : List O) (st : List T) : parse (o :: os) st = (push o st).bind (parse os) := rfl
def flS : List T → List O
  | [] => []
  | t :: st => flS st ++ t.fl
theorem parse_inv : ∀ (x : List O) (st st' : List T), parse x st = some st' → flS st ++ x = flS st' ∧ ((∀ t ∈ st, t.ok) → ∀ t ∈ st', t.ok)
  | [], st, st', h => by simp only [parse] at h; cases h; simp
  | o :: os, st, st', h => by
    rw [parse_cons] at h
    unfold push at h
    by_cases hw : okW o = true
    · rw [if_pos hw] at h
      rcases okW_takes hw with h0 | h0 | h0
      · rw [if_pos h0] at h
        obtain ⟨a, b⟩ := parse_inv os _ st' h
        refine ⟨?_, fun hk => b ?_⟩
        · rw [← a]; simp [flS, T.fl]
        · intro t ht
          rcases List.mem_cons.1 ht with rfl | ht
          · exact ⟨hw, h0⟩
          · exact hk t ht
      · rw [if_neg (by omega), if_pos h0] at h
        cases st with
        | nil => simp at h
        | cons t st =>
          obtain ⟨a, b⟩ := parse_inv os _ st' h
          refine ⟨?_, fun hk => b ?_⟩
          · rw [← a]; simp [flS, T.fl]
          · intro t' ht
            rcases List.mem_cons.1 ht with rfl | ht
            · exact ⟨hw, h0, hk t (by simp)⟩
            · exact hk t' (by simp [ht])
      · rw [if_neg (by omega), if_neg (by omega)] at h
        match st, h with
        | s :: t :: st, h =>
          obtain ⟨a, b⟩ := parse_inv os _ st' h
          refine ⟨?_, fun hk => b ?_⟩
          · rw [← a]; simp [flS, T.fl]
          · intro t' ht
            rcases List.mem_cons.1 ht with rfl | ht
            · exact ⟨hw, h0, hk t (by simp), hk s (by simp)⟩
            · exact hk t' (by simp [ht])
    · rw [if_neg hw] at h
      simp at h
theorem parse_fl : ∀ (t : T), t.ok → ∀ ys st, parse (t.fl ++ ys) st = parse ys (t :: st)
  | .l o, h, ys, st => by
    show parse (o :: ys) st = _
    rw [parse_cons]; unfold push; rw [if_pos h.1, if_pos h.2]
    rfl
  | .u o t, h, ys, st => by
    show parse ((t.fl ++ [o]) ++ ys) st = _
    rw [List.append_assoc, parse_fl t h.2.2]
    show parse (o :: ys) (t :: st) = _
    have := h.2.1
    rw [parse_cons]; unfold push; rw [if_pos h.1, if_neg (by omega), if_pos this]
    rfl
  | .b o t s, h, ys, st => by
    show parse ((t.fl ++ (s.fl ++ [o])) ++ ys) st = _
    rw [List.append_assoc, parse_fl t h.2.2.1, List.append_assoc, parse_fl s h.2.2.2]
    show parse (o :: ys) (s :: t :: st) = _
    have := h.2.1
    rw [parse_cons]; unfold push; rw [if_pos h.1, if_neg (by omega), if_neg (by omega)]
    rfl
def formR (r : Option (List T)) : Int := match r with
  | some [_] => 0
  | _ => 18
theorem formR_0 {r : Option (List T)} (h : formR r = 0) : ∃ t, r = some [t] := by
  unfold formR at h
  split at h
  · exact ⟨_, rfl⟩
  · simp at h
theorem formR_or (r : Option (List T)) : formR r = 0 ∨ formR r = 18 := by
  unfold formR
  split
  · exact .inl rfl
  · exact .inr rfl
theorem parse_one {x : List O} {t : T} (h : parse x [] = some [t]) : t.ok ∧ x = t.fl := by
  obtain ⟨a, b⟩ := parse_inv x [] [t] h
  exact ⟨b (by simp) t (by simp), by simpa [flS] using a⟩
theorem rd_at (p : List O) (o : O) (q : List O) : rd_T41 (p ++ o :: q) (p.length : Int) = o := by
  unfold rd_T41
  simp
theorem form_l0 (x : List O) (hx : x.length ≤ 64) : ∀ (ys p : List O) (st : List T), x = p ++ ys → st.length ≤ p.length → U (fun k => expr_Form.l0 k (st.length : Int) x (x.length : Int) (p.length : Int)) (formR (parse ys st))
  | [], p, st, h, hs => by
    refine U.succ ?_
    simp only [expr_Form.l0]
    refine U.neg (by rw [h]; simp) ?_
    match st with
    | [] => exact U.some _
    | [t] => exact U.some _
    | s :: t :: st =>
      refine U.neg (by simp; omega) ?_
      exact U.some _
  | o :: os, p, st, h, hs => by
    have hl : x.length = p.length + (os.length + 1) := by rw [h]; simp
    refine U.succ ?_
    simp only [expr_Form.l0]
    refine U.pos (by omega) (U.pos (by omega) (U.pos (by omega) ?_))
    rw [h, rd_at, ← h]
    refine U.bind (word_E o) ?_
    have ih := fun st' => form_l0 x hx os (p ++ [o]) st' (by rw [h]; simp)
    have hp : wrap64 ((p.length : Int) + 1) = ((p ++ [o]).length : Int) := by rw [w64 (by omega) (by omega)]; simp
    rw [parse_cons]
    unfold push
    by_cases hw : okW o = true
    · refine U.pos hw ?_
      rw [if_pos hw]
      refine U.bind (takes_E o.f0) ?_
      rcases okW_takes hw with h0 | h0 | h0
      · rw [if_pos h0]
        refine U.neg (by omega) (U.bind (takes_E o.f0) ?_)
        have := ih (.l o :: st) (by simp; omega)
        rw [h0, hp]
        refine this.congr fun k => ?_
        congr 1
        rw [w64 (x := 1 - 0) (by omega) (by omega), w64 (by omega) (by omega)]; simp
      · rw [if_neg (by omega), if_pos h0]
        match st, hs with
        | [], hs => exact U.pos (by simp; omega) (U.some _)
        | t :: st, hs =>
          simp at hs
          refine U.neg (by simp; omega) (U.bind (takes_E o.f0) ?_)
          have := ih (.u o t :: st) (by simp; omega)
          rw [h0, hp]
          refine this.congr fun k => ?_
          congr 1
          rw [w64 (x := 1 - 1) (by omega) (by omega), w64 (by simp; omega) (by simp; omega)]; simp
      · rw [if_neg (by omega), if_neg (by omega)]
        match st, hs with
        | [], hs => exact U.pos (by simp; omega) (U.some _)
        | [t], hs => exact U.pos (by simp; omega) (U.some _)
        | s :: t :: st, hs =>
          simp at hs
          refine U.neg (by simp; omega) (U.bind (takes_E o.f0) ?_)
          have := ih (.b o t s :: st) (by simp; omega)
          rw [h0, hp]
          refine this.congr fun k => ?_
          congr 1
          rw [w64 (x := 1 - 2) (by omega) (by omega), w64 (by simp; omega) (by simp; omega)]; simp; omega
    · refine U.neg hw ?_
      rw [if_neg hw]
      exact U.some _
def formV (x : List O) : Int := if x.length > 64 then 6 else formR (parse x [])
theorem form_E (x : List O) : U (fun k => expr_Form.f k x) (formV x) := by
  unfold expr_Form.f formV
  by_cases h : x.length > 64
  · rw [if_pos h]; exact U.pos (by omega) (U.some _)
  · rw [if_neg h]
    exact U.neg (by omega) (form_l0 x (by omega) x [] [] rfl (by simp))
end Go.Proofs.Ytbjbnlngdkkidaa.EvP
