/- Texts of this claim, put together by a program: Run, SortP, SortM, Canon, Cmp, StepA, SortJ, StabJ, NilJ, StepB, StepM, RunApp, StepC, StepP. -/
import Derived.Test.YtmkgecapkeojaaaGreatM10
import Derived.RangeFuncNested
import Derived.RangeFuncBound
import Derived.RangeFuncCalls
import Derived.RangeFuncLeaves
import Derived.WalkKit
import Derived.Lib.Hide
import Derived.Deep.QuietTactic
import Derived.BigQuiet
import Derived.Lib.Bytealg
import Derived.Lib.SliceRun
import Derived.WalkSpells
import Derived.BigRegion
import Derived.RegionTactic
import Derived.ChangeAlike
import Derived.RangeFuncBox
import Derived.OwnWalkIn
import Derived.Maps.AppendAt
set_option linter.unusedVariables false
set_option linter.unusedSimpArgs false
set_option maxHeartbeats 8000000
set_option maxRecDepth 100000
section
namespace Go.Proofs.YtmkgecapkeojaaaGreat.Run
open Go Go.RowKit
structure Grow (B : Nat) (I : World → Prop) : Prop where
 below : ∀ {W W' : World}, I W → Below W.heap.size W W' → I W'
 put : ∀ {W : World} {l : Nat} {o : Obj} (o' : Obj), I W → B ≤ l → W.heap[l]? = some o → o.isCells = false → I (W.putObj l o')
theorem Grow.alloc {B : Nat} {I : World → Prop} (h : Grow B I) {W : World} (o : Obj) (hi : I W) : I (W.alloc o) := h.below hi ((Below.refl _ W).alloc (Nat.le_refl _) o)
theorem Grow.and {B : Nat} {I J : World → Prop} (h : Grow B I) (k : Grow B J) : Grow B (fun W => I W ∧ J W) :=
 ⟨fun hi hb => ⟨h.below hi.1 hb, k.below hi.2 hb⟩, fun o' hi hl ho hc => ⟨h.put o' hi.1 hl ho hc, k.put o' hi.2 hl ho hc⟩⟩
theorem Grow.const (B : Nat) (p : Prop) : Grow B (fun _ => p) := ⟨fun h _ => h, fun _ h _ _ _ => h⟩
theorem Grow.ex {B : Nat} {α : Sort _} {I : α → World → Prop} (h : ∀ x, Grow B (I x)) : Grow B (fun W => ∃ x, I x W) :=
 ⟨fun ⟨x, hi⟩ hb => ⟨x, (h x).below hi hb⟩, fun o' ⟨x, hi⟩ hl ho hc => ⟨x, (h x).put o' hi hl ho hc⟩⟩
theorem Grow.mono {B B' : Nat} {I : World → Prop} (h : Grow B I) (hB : B ≤ B') : Grow B' I := ⟨fun a b => h.below a b, fun o' a b c d => h.put o' a (Nat.le_trans hB b) c d⟩
theorem below_put {n B : Nat} (hn : n ≤ B) {a W : World} {l : Nat} (o' : Obj) (h : Below n a W) (hl : B ≤ l) : Below n a (W.putObj l o') :=
 ⟨h.os, h.tape, h.output, by rw [World.putObj_size]; exact h.size, fun k hk => (World.putObj_heap_other (by omega)).trans (h.block k hk)⟩
theorem Grow.base {n B : Nat} (hn : n ≤ B) (a : World) (ha : n ≤ a.heap.size) : Grow B (fun W => Below n a W) :=
 ⟨fun h hb => h.trans (hb.mono (Nat.le_trans ha h.size)), fun o' h hl _ _ => below_put hn o' h hl⟩
structure Keeps (R : Nat → Prop) (A B : World) : Prop where
 os : B.os = A.os
 tape : B.tape = A.tape
 output : B.output = A.output
 size : A.heap.size ≤ B.heap.size
 block : ∀ b, R b → B.heap[b]? = A.heap[b]?
theorem Keeps.refl (R : Nat → Prop) (A : World) : Keeps R A A := ⟨rfl, rfl, rfl, Nat.le_refl _, fun _ _ => rfl⟩
theorem Keeps.trans {R : Nat → Prop} {A B C : World} (h : Keeps R A B) (k : Keeps R B C) : Keeps R A C :=
 ⟨k.os.trans h.os, k.tape.trans h.tape, k.output.trans h.output, Nat.le_trans h.size k.size, fun b hb => (k.block b hb).trans (h.block b hb)⟩
theorem Keeps.of_below {R : Nat → Prop} {n : Nat} {A B : World} (h : Below n A B) (hR : ∀ b, R b → b < n) : Keeps R A B := ⟨h.os, h.tape, h.output, h.size, fun b hb => h.block b (hR b hb)⟩
theorem Keeps.below {R : Nat → Prop} {n : Nat} {A B : World} (h : Keeps R A B) (hR : ∀ b, b < n → R b) : Below n A B := ⟨h.os, h.tape, h.output, h.size, fun b hb => h.block b (hR b hb)⟩
theorem Keeps.cell {R : Nat → Prop} {A B : World} (h : Keeps R A B) {p : Addr} (hp : R p.block) : B.cell? p = A.cell? p := World.cell?_of_block (w := A) (h.block p.block hp)
structure Step (S S' : Nat → Prop) (A B : World) : Prop where
 os : B.os = A.os
 tape : B.tape = A.tape
 output : B.output = A.output
 size : A.heap.size ≤ B.heap.size
 keep : ∀ b, b < A.heap.size → ¬ S b → B.heap[b]? = A.heap[b]?
 sub : ∀ b, S' b → S b ∨ A.heap.size ≤ b
theorem Step.refl (S : Nat → Prop) (A : World) : Step S S A A := ⟨rfl, rfl, rfl, Nat.le_refl _, fun _ _ _ => rfl, fun _ h => .inl h⟩
theorem Step.of_below {S : Nat → Prop} {A B : World} (h : Below A.heap.size A B) : Step S S A B := ⟨h.os, h.tape, h.output, h.size, fun b hb _ => h.block b hb, fun _ h => .inl h⟩
theorem Step.trans {S S' S'' : Nat → Prop} {A B C : World} (h : Step S S' A B) (k : Step S' S'' B C) : Step S S'' A C := by
 refine ⟨k.os.trans h.os, k.tape.trans h.tape, k.output.trans h.output, Nat.le_trans h.size k.size, fun b hb hS => ?_, fun b hb => ?_⟩
 ·refine (k.keep b (Nat.lt_of_lt_of_le hb h.size) fun hS' => ?_).trans (h.keep b hb hS)
  rcases h.sub b hS' with h1 | h1
  ·exact hS h1
  ·omega
 ·rcases k.sub b hb with h1 | h1
  ·exact h.sub b h1
  ·exact .inr (Nat.le_trans h.size h1)
theorem Step.keeps {S S' R : Nat → Prop} {A B : World} (h : Step S S' A B) (hR : ∀ b, R b → b < A.heap.size ∧ ¬ S b) : Keeps R A B :=
 ⟨h.os, h.tape, h.output, h.size, fun b hb => h.keep b (hR b hb).1 (hR b hb).2⟩
theorem Step.below {S S' : Nat → Prop} {n : Nat} {A B : World} (h : Step S S' A B) (hn : n ≤ A.heap.size) (hS : ∀ b, S b → n ≤ b) : Below n A B :=
 (h.keeps (R := fun b => b < n) fun b hb => ⟨Nat.lt_of_lt_of_le hb hn, fun hs => by have := hS b hs; omega⟩).below fun _ h => h
theorem Step.put {S : Nat → Prop} {A : World} {l : Nat} (o : Obj) (hl : S l) : Step S S A (A.putObj l o) := by
 refine ⟨rfl, rfl, rfl, by rw [World.putObj_size]; exact Nat.le_refl _, fun b hb hS => ?_, fun _ h => .inl h⟩; exact World.putObj_heap_other (fun e => hS (by rw [e]; exact hl))
theorem Step.wide {S S' : Nat → Prop} {A B : World} (h : Step S S' A B) (T : Nat → Prop) : Step (fun b => S b ∨ T b) (fun b => S' b ∨ T b) A B := by
 refine ⟨h.os, h.tape, h.output, h.size, fun b hb hS => h.keep b hb fun hs => hS (.inl hs), fun b hb => ?_⟩
 rcases hb with hb | hb
 ·rcases h.sub b hb with h1 | h1
  ·exact .inl (.inl h1)
  ·exact .inr h1
 ·exact .inl (.inr hb)
theorem Step.narrow {S S' S'' : Nat → Prop} {A B : World} (h : Step S S' A B) (hs : ∀ b, S'' b → S' b) : Step S S'' A B := ⟨h.os, h.tape, h.output, h.size, h.keep, fun b hb => h.sub b (hs b hb)⟩
theorem Step.drop {S S' : Nat → Prop} {A B : World} {T : Nat → Prop} (h : Step (fun b => S b ∨ T b) S' A B) (hT : ∀ b, T b → A.heap.size ≤ b) : Step S S' A B := by
 refine ⟨h.os, h.tape, h.output, h.size, fun b hb hS => h.keep b hb ?_, fun b hb => ?_⟩
 ·rintro (h1 | h1)
  ·exact hS h1
  ·have := hT b h1; omega
 ·rcases h.sub b hb with (h1 | h1) | h1
  ·exact .inl h1
  ·exact .inr (hT b h1)
  ·exact .inr h1
theorem loop_below {A B : World} (h : Below A.heap.size A B) {l : Nat} {o : Obj} (hl : A.heap[l]? = some o) : B.heap[l]? = some o := (h.block l (Array.getElem?_eq_some_iff.1 hl).1).trans hl
section
variable {F : Fence} {n : Nat} {P : Program} {β : Type}
def IterOn (F : Fence) (n : Nat) (P : Program) (gf : Nat) (lb : Array Value) (items : List β) (Φ : β → Array Value → World → Prop) (R : Nat → Prop) (w0 : World) : Prop :=
 (∀ b, R b → b < w0.heap.size) ∧ ∀ (l : Nat) (J : Nat → (Nat → Prop) → World → Prop) (Jx : (Nat → Prop) → World → Prop) (S : Nat → Prop) (W : World), Keeps R w0 W → (∀ b, S b → ¬ R b ∧ b < W.heap.size) →
  (∀ k S, Grow W.heap.size (J k S)) → (∀ S, Grow W.heap.size (Jx S)) →
  (∀ k x args S1 W1, items[k]? = some x → J k S1 W1 → (∀ b, S1 b → b < W1.heap.size) → Step S S1 W W1 → Φ x args W1 → YieldAt F (n - 1) P l args W1 fun e W' =>
   (e = .returned (.bool true) ∧ ∃ S', Step S1 S' W1 W' ∧ (∀ b, S' b → b < W'.heap.size) ∧ J (k + 1) S' W') ∨ (e = .returned (.bool false) ∧ ∃ S', Step S1 S' W1 W' ∧ (∀ b, S' b → b < W'.heap.size) ∧ Jx S' W')) →
  J 0 S W → CallsIn F n P gf (#[.func (.yield l) #[] #[]] ++ lb) W fun e W' => (∃ v, e = .returned v) ∧ ∃ S', Step S S' W W' ∧ (∀ b, S' b → b < W'.heap.size) ∧ (J items.length S' W' ∨ Jx S' W')
def roundEnd (I : Nat → (Nat → Prop) → World → Prop) (Ix : Code → (Nat → Prop) → World → Prop) (S : Nat → Prop) (k : Nat) (W : World) : Exit → Act → World → Prop
 | .normal, _, W' => ∃ S', Step S S' W W' ∧ (∀ b, S' b → b < W'.heap.size) ∧ I (k + 1) S' W'
 | .ret, _, W' => ∃ S', Step S S' W W' ∧ (∀ b, S' b → b < W'.heap.size) ∧ Ix .ret S' W'
 | .exit id, _, W' => ∃ S', Step S S' W W' ∧ (∀ b, S' b → b < W'.heap.size) ∧ Ix (.exit id) S' W'
 | .goto t, _, W' => ∃ S', Step S S' W W' ∧ (∀ b, S' b → b < W'.heap.size) ∧ Ix (.goto t) S' W'
 | .panic _, _, _ => False
 | .outgrown, _, _ => False
theorem yield_round {l : Nat} {rec : LoopState → Option Code → Loop} {fn : FuncId} {tmps : Array Value} {ps : Array Tmp} {assign body : Code} {m : Nat}
  (hrec : ∃ D, rec = fun st pe => { state := st, pending := pe, fn, tmps, params := ps, assign, body, defers := D }) (hfn : F.fn fn)
  {B : Nat} (hB : B ≤ l) {I : Nat → (Nat → Prop) → World → Prop} {Ix : Code → (Nat → Prop) → World → Prop} (hI : ∀ k S, Grow B (I k S)) (hIx : ∀ c S, Grow B (Ix c S))
  {Φ : Array Value → World → Prop} (hΦ : ∀ args, Grow B (Φ args)) {Ax : Array Value → Act → World → Prop} (hAx : ∀ args a', Grow B (Ax args a'))
  (k : Nat) (S : Nat → Prop) (args : Array Value) (hargs : args.size = ps.size) (W : World) (hl : W.heap[l]? = some (.loop (rec .ready none))) (hSl : ¬ S l) (hSb : ∀ b, S b → b < W.heap.size) (hi : I k S W) (hphi : Φ args W)
  (hassign : ∀ (K : Act → World → Prop), (∀ a' W', Below W.heap.size W W' → Ax args a' W' → K a' W') →
   assign.wpIn (F.inRound l) m P (Exit.then K (fun _ _ _ => False)) { tmps := (ps.zip args).foldl (fun t (p, v) => t.setIfInBounds p v) tmps, defers := [] } W)
  (hbody : ∀ (a' : Act) (W2 : World), (∃ r, W2.heap[l]? = some (.loop r)) → Step (fun b => b = l) (fun b => b = l) W W2 → I k S W2 → Φ args W2 → Ax args a' W2 → body.wpIn (F.inRound l) m P (roundEnd I Ix S k W2) a' W2) :
  YieldAt F m P l args W fun e W' => (e = .returned (.bool true) ∧ ∃ S', Step (fun b => S b ∨ b = l) (fun b => S' b ∨ b = l) W W' ∧ (∀ b, S' b → b < W'.heap.size) ∧ ¬ S' l ∧ I (k + 1) S' W' ∧ W'.heap[l]? = some (.loop (rec .ready none))) ∨
   (e = .returned (.bool false) ∧ ∃ c S', Step (fun b => S b ∨ b = l) (fun b => S' b ∨ b = l) W W' ∧ (∀ b, S' b → b < W'.heap.size) ∧ ¬ S' l ∧ Ix c S' W' ∧ W'.heap[l]? = some (.loop (rec .done (some c)))) := by
 obtain ⟨D, rfl⟩ := hrec; have hy := run_yield (P := P) (args := args) hl hargs; refine ⟨fn, _, assign, body, hy, roundIn_of_wpIn hfn (hassign _ ?_)⟩; intro a' W1 hb hax; have hl1 := loop_below hb hl; refine ⟨_, run_beginRound hl1 rfl, ?_⟩; have hlt : l < W1.heap.size := (Array.getElem?_eq_some_iff.1 hl1).1; have hl2 := World.putObj_heap_same (w := W1) (r := l) (o := .loop { state := .busy, pending := none, fn, tmps, params := ps, assign, body, defers := D }) hlt; have T2 : ∀ S : Nat → Prop, Step (fun b => S b ∨ b = l) (fun b => S b ∨ b = l) W (W1.putObj l (.loop { state := .busy, pending := none, fn, tmps, params := ps, assign, body, defers := D })) :=
  fun S => (Step.of_below hb).trans (Step.put _ (.inr rfl))
 have T2' : Step (fun b => b = l) (fun b => b = l) W (W1.putObj l (.loop { state := .busy, pending := none, fn, tmps, params := ps, assign, body, defers := D })) := (Step.of_below hb).trans (Step.put _ rfl); refine wpIn_mono (hbody a' _ ⟨_, hl2⟩ T2' ((hI k S).put _ ((hI k S).below hi hb) hB hl1 rfl) ((hΦ args).put _ ((hΦ args).below hphi hb) hB hl1 rfl) ((hAx args a').put _ hax hB hl1 rfl)) ?_; have key : ∀ {S' : Nat → Prop} {W3 : World} (o : Obj), Step S S' (W1.putObj l (.loop { state := .busy, pending := none, fn, tmps, params := ps, assign, body, defers := D })) W3 → (∀ b, S' b → b < W3.heap.size) →
   W3.heap[l]? = some (.loop { state := .busy, pending := none, fn, tmps, params := ps, assign, body, defers := D }) ∧ Step (fun b => S b ∨ b = l) (fun b => S' b ∨ b = l) W (W3.putObj l o) ∧ (∀ b, S' b → b < (W3.putObj l o).heap.size) ∧ ¬ S' l ∧ (W3.putObj l o).heap[l]? = some o := by
  intro S' W3 o hs hsb; have hl3 := (hs.keep l (by rw [World.putObj_size]; exact hlt) hSl).trans hl2; refine ⟨hl3, ((T2 S).trans (hs.wide _)).trans (Step.put _ (.inr rfl)), fun b hb => by rw [World.putObj_size]; exact hsb b hb, fun h => ?_, World.putObj_heap_same (Array.getElem?_eq_some_iff.1 hl3).1⟩
  rcases hs.sub l h with h1 | h1
  ·exact hSl h1
  ·rw [World.putObj_size] at h1; omega
 intro e a3 W3 hp; cases e with
 | normal =>
  obtain ⟨S', hs, hsb, hi3⟩ := hp; obtain ⟨hl3, q1, q2, q3, q4⟩ := key (.loop { state := .ready, pending := none, fn, tmps, params := ps, assign, body, defers := D }) hs hsb; exact ⟨_, _, run_endRound none hl3, .inl ⟨rfl, S', q1, q2, q3, (hI _ _).put _ hi3 hB hl3 rfl, q4⟩⟩
 | ret =>
  obtain ⟨S', hs, hsb, hi3⟩ := hp; obtain ⟨hl3, q1, q2, q3, q4⟩ := key (.loop { state := .done, pending := some .ret, fn, tmps, params := ps, assign, body, defers := D }) hs hsb; exact ⟨_, _, run_endRound (some .ret) hl3, .inr ⟨rfl, .ret, S', q1, q2, q3, (hIx _ _).put _ hi3 hB hl3 rfl, q4⟩⟩
 | exit id =>
  obtain ⟨S', hs, hsb, hi3⟩ := hp; obtain ⟨hl3, q1, q2, q3, q4⟩ := key (.loop { state := .done, pending := some (.exit id), fn, tmps, params := ps, assign, body, defers := D }) hs hsb; exact ⟨_, _, run_endRound (some (.exit id)) hl3, .inr ⟨rfl, .exit id, S', q1, q2, q3, (hIx _ _).put _ hi3 hB hl3 rfl, q4⟩⟩
 | goto t =>
  obtain ⟨S', hs, hsb, hi3⟩ := hp; obtain ⟨hl3, q1, q2, q3, q4⟩ := key (.loop { state := .done, pending := some (.goto t), fn, tmps, params := ps, assign, body, defers := D }) hs hsb; exact ⟨_, _, run_endRound (some (.goto t)) hl3, .inr ⟨rfl, .goto t, S', q1, q2, q3, (hIx _ _).put _ hi3 hB hl3 rfl, q4⟩⟩
 | panic ch => exact hp.elim
 | outgrown => exact hp.elim
theorem range_outer {g : Operand} {ps : Array Tmp} {assign body : Code} {Q : Exit → Act → World → Prop} {a : Act} {w : World}
  (hro : F.round = none) (h1 : 1 ≤ n) {gf : Nat} {lb : Array Value} (hg : a.eval g = .func (.func gf) #[] lb) (hFg : F.fn gf) (eg : ∀ args w, (callFunc gf args).run P w = .ok (.enter gf args) w)
  {items : List β} {Φ : β → Array Value → World → Prop} {R : Nat → Prop} {w0 : World} (hseq : IterOn F (n - 1) P gf lb items Φ R w0) (hw0 : Keeps R w0 w) (hps : ∀ x args W, Φ x args W → args.size = ps.size)
  (I : Nat → (Nat → Prop) → World → Prop) (Ix : Code → (Nat → Prop) → World → Prop) (Ax : β → Array Value → Act → World → Prop)
  (hI : ∀ k S, Grow w.heap.size (I k S)) (hIx : ∀ c S, Grow w.heap.size (Ix c S)) (hΦ : ∀ x args, Grow w.heap.size (Φ x args)) (hAx : ∀ x args a', Grow w.heap.size (Ax x args a'))
  (S0 : Nat → Prop) (hS0 : ∀ b, S0 b → ¬ R b ∧ b < w.heap.size) (h0 : I 0 S0 w)
  (hassign : ∀ (l k : Nat) (S : Nat → Prop) (x : β) (args : Array Value) (W : World) (K : Act → World → Prop), items[k]? = some x → I k S W → Φ x args W → (∀ a' W', Below W.heap.size W W' → Ax x args a' W' → K a' W') →
   assign.wpIn (F.inRound l) (n - 1 - 1) P (Exit.then K (fun _ _ _ => False)) { tmps := (ps.zip args).foldl (fun t (p, v) => t.setIfInBounds p v) a.tmps, defers := [] } W)
  (hbody : ∀ (l k : Nat) (S : Nat → Prop) (x : β) (args : Array Value) (a' : Act) (W : World), w.heap.size ≤ l → (∃ r, W.heap[l]? = some (.loop r)) → items[k]? = some x → (∀ b, S b → b < W.heap.size) → ¬ S l → Keeps R w0 W → I k S W → Φ x args W → Ax x args a' W →
   body.wpIn (F.inRound l) (n - 1 - 1) P (roundEnd I Ix S k W) a' W)
  (hdone : ∀ (D : Nat) (S : Nat → Prop) (W : World), w.heap.size ≤ D → ¬ S D → Step S0 S w W → (∀ b, S b → b < W.heap.size) → I items.length S W → W.heap[D]? = some (.deferred (some [])) → Q .normal { a with defers := { target := .collected D, args := #[] } :: a.defers } W)
  (hstop : ∀ (D : Nat) (c : Code) (S : Nat → Prop) (W : World), w.heap.size ≤ D → ¬ S D → Step S0 S w W → (∀ b, S b → b < W.heap.size) → Ix c S W → W.heap[D]? = some (.deferred (some [])) → c.wpIn F n P Q { a with defers := { target := .collected D, args := #[] } :: a.defers } W) :
  (Code.rangeFunc g ps assign body).wpIn F n P Q a w := by
 refine wpIn_rangeFunc fun fn hfn => ?_
 rw [hro]; obtain ⟨rec, hrec⟩ : ∃ rec : LoopState → Option Code → Loop, rec = fun st pe => { state := st, pending := pe, fn, tmps := a.tmps, params := ps, assign, body, defers := w.heap.size } := ⟨_, rfl⟩
 obtain ⟨W1, hW1⟩ : ∃ W1, (w.alloc (.deferred (some []))).alloc (.loop (rec .ready none)) = W1 := ⟨_, rfl⟩
 have hsz : W1.heap.size = w.heap.size + 2 := by rw [← hW1]; simp
 have hL1 : W1.heap[w.heap.size + 1]? = some (.loop (rec .ready none)) := by
  rw [← hW1]; have := World.alloc_heap_new (w.alloc (.deferred (some []))) (.loop (rec .ready none)); rwa [World.size_alloc] at this
 have hK1 : W1.heap[w.heap.size]? = some (.deferred (some [])) := by
  rw [← hW1]; exact (Below.heap_alloc _ _ _ (by simp)).trans (World.alloc_heap_new w _)
 have hI1 : I 0 S0 W1 := by rw [← hW1]; exact (hI 0 S0).alloc _ ((hI 0 S0).alloc _ h0)
 have hb1 : Below w.heap.size w W1 := by rw [← hW1]; exact ((Below.refl _ w).alloc (Nat.le_refl _) _).alloc (by simp) _
 have hT1 : Keeps R w0 W1 := hw0.trans (Keeps.of_below hb1 fun b hb => Nat.lt_of_lt_of_le (hseq.1 b hb) hw0.size); have hRw : ∀ b, R b → b < w.heap.size := fun b hb => Nat.lt_of_lt_of_le (hseq.1 b hb) hw0.size
 refine ⟨w.heap.size + 1, [{ target := .collected w.heap.size, args := #[] }], W1, { target := .fn (.func gf) lb, args := #[.func (.yield (w.heap.size + 1)) #[] #[]] }, W1, gf,
  #[.func (.yield (w.heap.size + 1)) #[] #[]] ++ lb, W1, ?_, ?_, ?_, ?_, fun _ => h1, ?_⟩
 ·rw [← hW1, hrec]; exact run_enterLoop_outer _ _ _ _ _
 ·simp only [resolve, hg]
  simp [go_sem]
 ·intro f' hf'; simp [Target.leads] at hf'; subst hf'; exact hFg
 ·simp [invoke, go_sem, eg]
 have hcall := hseq.2 (w.heap.size + 1)
  (fun k S W => ∃ S', S = (fun b => S' b ∨ b = w.heap.size + 1) ∧ (¬ S' (w.heap.size + 1) ∧ Step S0 S' w W ∧ ∀ b, S' b → b < W.heap.size) ∧ I k S' W ∧ W.heap[w.heap.size + 1]? = some (.loop (rec .ready none)) ∧ ¬ S' w.heap.size ∧ W.heap[w.heap.size]? = some (.deferred (some [])))
  (fun S W => ∃ S' c, S = (fun b => S' b ∨ b = w.heap.size + 1) ∧ (¬ S' (w.heap.size + 1) ∧ Step S0 S' w W ∧ ∀ b, S' b → b < W.heap.size) ∧ Ix c S' W ∧ W.heap[w.heap.size + 1]? = some (.loop (rec .done (some c))) ∧ ¬ S' w.heap.size ∧ W.heap[w.heap.size]? = some (.deferred (some [])))
  (fun b => S0 b ∨ b = w.heap.size + 1) W1 hT1
  (fun b hb => by
   rcases hb with hb | rfl
   ·exact ⟨(hS0 b hb).1, by have := (hS0 b hb).2; omega⟩
   ·exact ⟨fun h => by have := hRw _ h; omega, by omega⟩)
  (fun k S => Grow.ex fun S' => by
   refine ⟨?_, ?_⟩
   ·rintro W W' ⟨e, ⟨n1, n2, n3⟩, hi, hl, hd, hk⟩ hb
    exact ⟨e, ⟨n1, n2.trans (Step.of_below hb), fun b hb' => Nat.lt_of_lt_of_le (n3 b hb') hb.size⟩, (hI k S').below hi hb, loop_below hb hl, hd, loop_below hb hk⟩
   ·rintro W l' o o' ⟨e, ⟨n1, n2, n3⟩, hi, hl, hd, hk⟩ hle ho hc
    refine ⟨e, ⟨n1, ?_, fun b hb' => by rw [World.putObj_size]; exact n3 b hb'⟩, (hI k S').put o' hi (by omega) ho hc, (World.putObj_heap_other (by omega)).trans hl, hd, (World.putObj_heap_other (by omega)).trans hk⟩; exact ⟨n2.os, n2.tape, n2.output, by rw [World.putObj_size]; exact n2.size, fun b hb hS => (World.putObj_heap_other (by omega)).trans (n2.keep b hb hS), n2.sub⟩)
  (fun S => Grow.ex fun S' => Grow.ex fun c => by
   refine ⟨?_, ?_⟩
   ·rintro W W' ⟨e, ⟨n1, n2, n3⟩, hi, hl, hd, hk⟩ hb
    exact ⟨e, ⟨n1, n2.trans (Step.of_below hb), fun b hb' => Nat.lt_of_lt_of_le (n3 b hb') hb.size⟩, (hIx c S').below hi hb, loop_below hb hl, hd, loop_below hb hk⟩
   ·rintro W l' o o' ⟨e, ⟨n1, n2, n3⟩, hi, hl, hd, hk⟩ hle ho hc
    refine ⟨e, ⟨n1, ?_, fun b hb' => by rw [World.putObj_size]; exact n3 b hb'⟩, (hIx c S').put o' hi (by omega) ho hc, (World.putObj_heap_other (by omega)).trans hl, hd, (World.putObj_heap_other (by omega)).trans hk⟩; exact ⟨n2.os, n2.tape, n2.output, by rw [World.putObj_size]; exact n2.size, fun b hb hS => (World.putObj_heap_other (by omega)).trans (n2.keep b hb hS), n2.sub⟩)
  (by
   rintro k x args S1 W hx ⟨S', rfl, ⟨n1, n2, n3⟩, hi, hl, hd, hk⟩ hsb hst hphi; have hkr : Keeps R w0 W := hT1.trans (hst.keeps fun b hb => ⟨by have := hRw b hb; omega, by
    rintro (h | h)
    ·exact (hS0 b h).1 hb
    ·have := hRw b hb; omega⟩)
   refine (yield_round (B := w.heap.size) (rec := rec) ⟨w.heap.size, hrec⟩ hfn (Nat.le_succ _) hI hIx (hΦ x) (hAx x) k S' args (hps x args W hphi) W hl n1 n3 hi hphi
    (fun K hK => hassign _ k S' x args W K hx hi hphi hK)
    (fun a' W2 hr h12 hi2 hphi2 hax => hbody _ k S' x args a' W2 (Nat.le_succ _) hr hx (fun b hb => Nat.lt_of_lt_of_le (n3 b hb) h12.size) n1
     (hkr.trans (h12.keeps fun b hb => ⟨by have := hRw b hb; have := n2.size; omega, fun e => by have := hRw b hb; omega⟩)) hi2 hphi2 hax)).mono ?_
   have hlt : w.heap.size < W.heap.size := (Array.getElem?_eq_some_iff.1 hk).1; rintro e W' (⟨rfl, S'', hs, hsb', hn, hi', hl'⟩ | ⟨rfl, c, S'', hs, hsb', hn, hi', hl'⟩)
   ·have hd' : ¬ S'' w.heap.size := fun h => by
     rcases hs.sub _ (.inl h) with (h1 | h1) | h1
     ·exact hd h1
     ·omega
     ·omega
    have hl1' : w.heap.size + 1 < W'.heap.size := (Array.getElem?_eq_some_iff.1 hl').1; refine .inl ⟨rfl, _, hs, ?_, S'', rfl, ⟨hn, ?_, hsb'⟩, hi', hl', hd', (hs.keep _ hlt (by rintro (h | h); exact hd h; omega)).trans hk⟩
    ·rintro b (h | rfl)
     ·exact hsb' b h
     ·exact hl1'
    ·have hst2 : Step S0 (fun b => S'' b ∨ b = w.heap.size + 1) w W' := Step.drop (T := fun b => b = w.heap.size + 1) ((n2.wide _).trans hs) (fun b e => by omega)
     exact hst2.narrow fun b hb => .inl hb
   ·have hd' : ¬ S'' w.heap.size := fun h => by
     rcases hs.sub _ (.inl h) with (h1 | h1) | h1
     ·exact hd h1
     ·omega
     ·omega
    have hl1' : w.heap.size + 1 < W'.heap.size := (Array.getElem?_eq_some_iff.1 hl').1; refine .inr ⟨rfl, _, hs, ?_, S'', c, rfl, ⟨hn, ?_, hsb'⟩, hi', hl', hd', (hs.keep _ hlt (by rintro (h | h); exact hd h; omega)).trans hk⟩
    ·rintro b (h | rfl)
     ·exact hsb' b h
     ·exact hl1'
    ·have hst2 : Step S0 (fun b => S'' b ∨ b = w.heap.size + 1) w W' := Step.drop (T := fun b => b = w.heap.size + 1) ((n2.wide _).trans hs) (fun b e => by omega)
     exact hst2.narrow fun b hb => .inl hb)
  ⟨S0, rfl, ⟨fun h => by have := (hS0 _ h).2; omega, Step.of_below hb1, fun b hb => by have := (hS0 b hb).2; omega⟩, hI1, hL1, fun h => by have := (hS0 _ h).2; omega, hK1⟩
 have stp : ∀ {S' : Nat → Prop} {W2 : World} {o : Obj} (o' : Obj), Step S0 S' w W2 → Step S0 S' w (W2.putObj (w.heap.size + 1) o') := fun o' n2 =>
  ⟨n2.os, n2.tape, n2.output, by rw [World.putObj_size]; exact n2.size, fun b hb hS => (World.putObj_heap_other (by omega)).trans (n2.keep b hb hS), n2.sub⟩
 refine hcall.mono ?_; rintro e W2 ⟨⟨v, rfl⟩, S2, hs2, hsb2, (⟨S', rfl, ⟨n1, n2, n3⟩, hi, hl, hd, hk⟩ | ⟨S', c, rfl, ⟨n1, n2, n3⟩, hi, hl, hd, hk⟩)⟩
 ·refine ⟨none, _, by have := run_endLoop (P := P) hl (by rw [hrec]; simp); rw [hrec] at this; exact this, ?_⟩
  exact hdone _ S' _ (Nat.le_refl _) hd (stp (o := .deferred none) _ n2) (fun b hb => by rw [World.putObj_size]; exact n3 b hb) ((hI _ _).put _ hi (Nat.le_succ _) hl rfl) ((World.putObj_heap_other (by omega)).trans hk)
 ·refine ⟨some c, _, by have := run_endLoop (P := P) hl (by rw [hrec]; simp); rw [hrec] at this; exact this, ?_⟩
  exact hstop _ c S' _ (Nat.le_refl _) hd (stp (o := .deferred none) _ n2) (fun b hb => by rw [World.putObj_size]; exact n3 b hb) ((hIx _ _).put _ hi (Nat.le_succ _) hl rfl) ((World.putObj_heap_other (by omega)).trans hk)
end
end Go.Proofs.YtmkgecapkeojaaaGreat.Run
end
section
namespace Go.Proofs.YtmkgecapkeojaaaGreat.SortP
variable {α : Type}
structure Ord (cf : α → α → Int) : Prop where
 asymm : ∀ x y, cf x y < 0 → ¬ cf y x < 0
 trans : ∀ x y z, ¬ cf y x < 0 → ¬ cf z y < 0 → ¬ cf z x < 0
def Le (cf : α → α → Int) (x y : α) : Prop := ¬ cf y x < 0
def Up (cf : α → α → Int) (g : Nat → α) (a b : Nat) : Prop := ∀ x y, a ≤ x → x < y → y < b → Le cf (g x) (g y)
def exch (g : Nat → α) (i j : Nat) : Nat → α := fun k => if k = i then g j else if k = j then g i else g k
def row (g : Nat → α) (n : Nat) : List α := (List.range n).map g
theorem row_len (g : Nat → α) (n : Nat) : (row g n).length = n := by simp [row]
theorem row_get (g : Nat → α) (n i : Nat) (h : i < n) : (row g n)[i]? = some (g i) := by simp [row, h]
theorem exch_perm (g : Nat → α) (n i j : Nat) (hi : i < n) (hj : j < n) : (row (exch g i j) n).Perm (row g n) := by
 have hA : (row g n).toArray.size = n := by simp [row]
 have h := Array.swap_perm (xs := (row g n).toArray) (i := i) (j := j) (by rw [hA]; exact hi) (by rw [hA]; exact hj); have h2 := Array.perm_iff_toList_perm.1 h; have e : ((row g n).toArray.swap i j (by rw [hA]; exact hi) (by rw [hA]; exact hj)).toList = row (exch g i j) n := by
  refine List.ext_getElem? fun k => ?_
  rcases Nat.lt_or_ge k n with c | c
  ·rw [row_get _ n k c]
   rw [Array.getElem?_toList, Array.getElem?_swap]; unfold exch; simp only [List.getElem_toArray, List.getElem?_toArray]; have gi : (row g n)[i]'(by rw [row_len]; exact hi) = g i := by simp [row]
   have gj : (row g n)[j]'(by rw [row_len]; exact hj) = g j := by simp [row]
   rw [gi, gj, row_get g n k c]; clear h h2 gi gj
   by_cases p1 : k = i
   ·subst p1
    by_cases p2 : k = j
    ·subst p2; simp
    ·simp [Ne.symm p2]
   ·by_cases p2 : k = j
    ·subst p2; simp [p1]
    ·simp [p1, p2, Ne.symm p1, Ne.symm p2]
  ·rw [List.getElem?_eq_none (by simp [row]; exact c), List.getElem?_eq_none (by rw [row_len]; exact c)]
 rw [e] at h2; exact h2
theorem exch_left (g : Nat → α) (i j : Nat) : exch g i j i = g j := by simp [exch]
theorem exch_right (g : Nat → α) (i j : Nat) : exch g i j j = g i := by unfold exch; split <;> simp_all
theorem exch_other (g : Nat → α) {i j k : Nat} (h1 : k ≠ i) (h2 : k ≠ j) : exch g i j k = g k := by simp [exch, h1, h2]
theorem Le.of_lt {cf : α → α → Int} (o : Ord cf) {x y : α} (h : cf x y < 0) : Le cf x y := o.asymm x y h
theorem Up.congr {cf : α → α → Int} {g g' : Nat → α} {a b : Nat} (h : Up cf g a b) (e : ∀ k, a ≤ k → k < b → g' k = g k) : Up cf g' a b := fun x y h1 h2 h3 => by rw [e x h1 (by omega), e y (by omega) h3]; exact h x y h1 h2 h3
theorem Up.sub {cf : α → α → Int} {g : Nat → α} {a b a' b' : Nat} (h : Up cf g a b) (h1 : a ≤ a') (h2 : b' ≤ b) : Up cf g a' b' := fun x y k1 k2 k3 => h x y (by omega) k2 (by omega)
theorem Up.one (cf : α → α → Int) (g : Nat → α) (a b : Nat) (h : b ≤ a + 1) : Up cf g a b := fun x y h1 h2 h3 => by omega
def Ins (cf : α → α → Int) (g : Nat → α) (a i j : Nat) : Prop := ∀ x y, a ≤ x → x < y → y ≤ i → y ≠ j → Le cf (g x) (g y)
theorem ins_start {cf : α → α → Int} {g : Nat → α} {a i : Nat} (h : Up cf g a i) : Ins cf g a i i := fun x y h1 h2 h3 h4 => h x y h1 h2 (by omega)
theorem ins_step {cf : α → α → Int} (o : Ord cf) {g : Nat → α} {a i j : Nat} (h : Ins cf g a i (j + 1)) (ha : a ≤ j) (hj : j + 1 ≤ i) (hl : cf (g (j + 1)) (g j) < 0) : Ins cf (exch g (j + 1) j) a i j := by
 intro x y h1 h2 h3 h4
 by_cases y1 : y = j + 1
 ·subst y1
  rw [exch_left]
  by_cases x1 : x = j
  ·subst x1; rw [exch_right]; exact Le.of_lt o hl
  ·rw [exch_other g (by omega) x1]
   exact h x j h1 (by omega) (by omega) (by omega)
 ·rw [exch_other g y1 h4]
  by_cases x1 : x = j + 1
  ·subst x1; rw [exch_left]; exact h j y (by omega) (by omega) h3 y1
  ·by_cases x2 : x = j
   ·subst x2; rw [exch_right]; exact h (x + 1) y (by omega) (by omega) h3 y1
   ·rw [exch_other g x1 x2]; exact h x y h1 h2 h3 y1
theorem ins_done {cf : α → α → Int} (o : Ord cf) {g : Nat → α} {a i j : Nat} (h : Ins cf g a i j) (hj : j ≤ i) (hd : j ≤ a ∨ ∃ q, j = q + 1 ∧ ¬ cf (g j) (g q) < 0) : Up cf g a (i + 1) := by
 intro x y h1 h2 h3
 by_cases y1 : y = j
 ·subst y1
  rcases hd with hd | ⟨q, rfl, hd⟩
  ·omega
  ·by_cases x1 : x = q
   ·subst x1; exact hd
   ·exact o.trans _ _ _ (h x q h1 (by omega) (by omega) (by omega)) hd
 ·exact h x y h1 h2 (by omega) y1
structure Turn (g g' : Nat → α) (a m b i j : Nat) : Prop where
 lo : a + i ≤ m
 hi : m + j ≤ b
 low : i ≤ m - a
 done1 : ∀ k, a ≤ k → k < m - i → g' k = if k < a + (b - m) then g (m + (k - a)) else g (a + (k - (a + (b - m))))
 done2 : ∀ k, m + j ≤ k → k < b → g' k = if k < a + (b - m) then g (m + (k - a)) else g (a + (k - (a + (b - m))))
 rest : ∀ k, m - i ≤ k → k < m + j → (if k < m - i + j then g' (m + (k - (m - i))) else g' (m - i + (k - (m - i + j)))) = if k < a + (b - m) then g (m + (k - a)) else g (a + (k - (a + (b - m))))
 out : ∀ k, k < a ∨ b ≤ k → g' k = g k
structure Cut (cf : α → α → Int) (g : Nat → α) (a m b start : Nat) : Prop where
 lo : a ≤ start
 le : start ≤ m
 hi : (a + b) / 2 + m - start ≤ b
 mid : m ≤ (a + b) / 2 + m - start
 left : start = a ∨ (a + b) / 2 + m - start = b ∨ ¬ cf (g ((a + b) / 2 + m - start)) (g (start - 1)) < 0
 right : start = m ∨ (a + b) / 2 + m - start = m ∨ cf (g ((a + b) / 2 + m - start - 1)) (g start) < 0
def SameOn (g g' : Nat → α) (a b : Nat) : Prop := (∀ k, k < a ∨ b ≤ k → g' k = g k) ∧ ∀ k, a ≤ k → k < b → ∃ q, a ≤ q ∧ q < b ∧ g' k = g q
theorem SameOn.refl (g : Nat → α) (a b : Nat) : SameOn g g a b := ⟨fun _ _ => rfl, fun k h1 h2 => ⟨k, h1, h2, rfl⟩⟩
theorem SameOn.trans {g g' g'' : Nat → α} {a b : Nat} (h : SameOn g g' a b) (k : SameOn g' g'' a b) : SameOn g g'' a b := by
 refine ⟨fun i hi => (k.1 i hi).trans (h.1 i hi), fun i h1 h2 => ?_⟩; obtain ⟨q, q1, q2, e⟩ := k.2 i h1 h2; obtain ⟨r, r1, r2, e2⟩ := h.2 q q1 q2; exact ⟨r, r1, r2, e.trans e2⟩
theorem SameOn.wide {g g' : Nat → α} {a b a' b' : Nat} (h : SameOn g g' a b) (h1 : a' ≤ a) (h2 : b ≤ b') : SameOn g g' a' b' := by
 refine ⟨fun i hi => h.1 i (by omega), fun i k1 k2 => ?_⟩
 by_cases c : a ≤ i ∧ i < b
 ·obtain ⟨q, q1, q2, e⟩ := h.2 i c.1 c.2
  exact ⟨q, by omega, by omega, e⟩
 ·exact ⟨i, k1, k2, h.1 i (by omega)⟩
theorem SameOn.exch (g : Nat → α) {a b i j : Nat} (h1 : a ≤ i) (h2 : i < b) (h3 : a ≤ j) (h4 : j < b) : SameOn g (exch g i j) a b := by
 refine ⟨fun k hk => exch_other g (by omega) (by omega), fun k k1 k2 => ?_⟩
 by_cases c : k = i
 ·exact ⟨j, h3, h4, by rw [c, exch_left]⟩
 ·by_cases d : k = j
  ·exact ⟨i, h1, h2, by rw [d, exch_right]⟩
  ·exact ⟨k, k1, k2, exch_other g c d⟩
end Go.Proofs.YtmkgecapkeojaaaGreat.SortP
end
section
namespace Go.Proofs.YtmkgecapkeojaaaGreat.SortM
open Go Go.RowKit Go.Proofs.YtmkgecapkeojaaaGreatW.PrintWords Go.Proofs.YtmkgecapkeojaaaGreat.Run Go.Proofs.YtmkgecapkeojaaaGreat.SortP
variable {α : Type}
def Holds (enc : α → List Value) (k : Nat) (W : World) (blk : Nat) (t : TypeId) (n : Nat) (g : Nat → α) : Prop :=
 ∃ C : Array Value, W.heap[blk]? = some (.cells C t (0, 0)) ∧ n * k ≤ C.size ∧ ∀ i j u, i < n → (enc (g i))[j]? = some u → C[i * k + j]? = some u
theorem Holds.cell {enc : α → List Value} {k : Nat} {W : World} {blk : Nat} {t : TypeId} {n : Nat} {g : Nat → α} (h : Holds enc k W blk t n g) {i j : Nat} {u : Value} (hi : i < n) (hu : (enc (g i))[j]? = some u) : W.cell? ⟨blk, i * k + j, none⟩ = some u := by
 obtain ⟨C, hC, _, hc⟩ := h; exact (blk_cell hC _).trans (hc i j u hi hu)
theorem Holds.frozen {enc : α → List Value} {k : Nat} {W : World} {blk : Nat} {t : TypeId} {n : Nat} {g : Nat → α} (h : Holds enc k W blk t n g) (o : Nat) : W.frozen? ⟨blk, o, none⟩ = false := by
 obtain ⟨C, hC, _, hc⟩ := h; exact blk_frozen hC o
theorem Holds.below {enc : α → List Value} {k : Nat} {W W' : World} {blk : Nat} {t : TypeId} {n : Nat} {g : Nat → α} (h : Holds enc k W blk t n g) (hb : Below W.heap.size W W') : Holds enc k W' blk t n g := by
 obtain ⟨C, hC, h1, hc⟩ := h; exact ⟨C, blk_below hC hb, h1, hc⟩
theorem Holds.congr {enc : α → List Value} {k : Nat} {W : World} {blk : Nat} {t : TypeId} {n : Nat} {g g' : Nat → α} (h : Holds enc k W blk t n g) (e : ∀ i, i < n → g' i = g i) : Holds enc k W blk t n g' := by
 obtain ⟨C, hC, h1, hc⟩ := h; exact ⟨C, hC, h1, fun i j u hi hu => hc i j u hi (by rw [← e i hi]; exact hu)⟩
def OnlyB (blk : Nat) : Nat → Prop := fun b => b = blk
theorem step_set (W : World) (blk o : Nat) (v : Value) : Step (OnlyB blk) (OnlyB blk) W (W.setCell ⟨blk, o, none⟩ v) := by
 refine ⟨rfl, rfl, rfl, by simp, fun b hb hS => Below.heap_setCell W ⟨blk, o, none⟩ v b (fun e => hS e), fun b h => .inl h⟩
theorem step_below {blk : Nat} {W W' : World} (h : Below W.heap.size W W') : Step (OnlyB blk) (OnlyB blk) W W' := Step.of_below h
theorem Holds.put2 {enc : α → List Value} {W : World} {blk : Nat} {t : TypeId} {n : Nat} {g : Nat → α} (h : Holds enc 2 W blk t n g) (hk : ∀ x, (enc x).length = 2) {i : Nat} (hi : i < n) (x : α) {u0 u1 : Value} (hx : enc x = [u0, u1]) :
  Holds enc 2 ((W.setCell ⟨blk, i * 2, none⟩ u0).setCell ⟨blk, i * 2 + 1, none⟩ u1) blk t n (fun k => if k = i then x else g k) := by
 obtain ⟨C, hC, h1, hc⟩ := h; refine ⟨_, blk_set (blk_set hC _ _) _ _, by simpa using h1, fun p j u hp hu => ?_⟩; have hj : j < 2 := by have := (List.getElem?_eq_some_iff.1 hu).1; rw [hk] at this; exact this
 rw [Array.getElem?_setIfInBounds, Array.getElem?_setIfInBounds]; simp only [Array.size_setIfInBounds]; have hu : (enc (if p = i then x else g p))[j]? = some u := hu
 by_cases e : p = i
 ·subst e
  rw [if_pos rfl, hx] at hu
  match j, hj with
  | 0, _ => rw [if_neg (by omega), if_pos (by omega), if_pos (by omega)]; simpa using hu
  | 1, _ => rw [if_pos (by omega), if_pos (by omega)]; simpa using hu
 ·rw [if_neg e] at hu
  rw [if_neg (by omega), if_neg (by omega)]; exact hc p j u hp hu
theorem Holds.put3 {enc : α → List Value} {W : World} {blk : Nat} {t : TypeId} {n : Nat} {g : Nat → α} (h : Holds enc 3 W blk t n g) (hk : ∀ x, (enc x).length = 3) {i : Nat} (hi : i < n) (x : α) {u0 u1 u2 : Value} (hx : enc x = [u0, u1, u2]) :
  Holds enc 3 (((W.setCell ⟨blk, i * 3, none⟩ u0).setCell ⟨blk, i * 3 + 1, none⟩ u1).setCell ⟨blk, i * 3 + 2, none⟩ u2) blk t n (fun k => if k = i then x else g k) := by
 obtain ⟨C, hC, h1, hc⟩ := h; refine ⟨_, blk_set (blk_set (blk_set hC _ _) _ _) _ _, by simpa using h1, fun p j u hp hu => ?_⟩; have hj : j < 3 := by have := (List.getElem?_eq_some_iff.1 hu).1; rw [hk] at this; exact this
 rw [Array.getElem?_setIfInBounds, Array.getElem?_setIfInBounds, Array.getElem?_setIfInBounds]; simp only [Array.size_setIfInBounds]; have hu : (enc (if p = i then x else g p))[j]? = some u := hu
 by_cases e : p = i
 ·subst e
  rw [if_pos rfl, hx] at hu
  match j, hj with
  | 0, _ => rw [if_neg (by omega), if_neg (by omega), if_pos (by omega), if_pos (by omega)]; simpa using hu
  | 1, _ => rw [if_neg (by omega), if_pos (by omega), if_pos (by omega)]; simpa using hu
  | 2, _ => rw [if_pos (by omega), if_pos (by omega)]; simpa using hu
 ·rw [if_neg e] at hu
  rw [if_neg (by omega), if_neg (by omega), if_neg (by omega)]; exact hc p j u hp hu
theorem Holds.exch2 {enc : α → List Value} {W : World} {blk : Nat} {t : TypeId} {n : Nat} {g : Nat → α} (h : Holds enc 2 W blk t n g) (hk : ∀ x, (enc x).length = 2) {i j : Nat} (hi : i < n) (hj : j < n) {u0 u1 v0 v1 : Value} (hx : enc (g i) = [u0, u1]) (hy : enc (g j) = [v0, v1]) :
  Holds enc 2 ((((W.setCell ⟨blk, i * 2, none⟩ v0).setCell ⟨blk, i * 2 + 1, none⟩ v1).setCell ⟨blk, j * 2, none⟩ u0).setCell ⟨blk, j * 2 + 1, none⟩ u1) blk t n (exch g i j) := by
 refine ((h.put2 hk hi (g j) hy).put2 hk hj (g i) hx).congr fun k hk => ?_
 unfold exch
 by_cases h1 : k = j
 ·subst h1
  by_cases h2 : k = i
  ·subst h2; simp
  ·simp [h2]
 ·by_cases h2 : k = i
  ·subst h2; simp [h1]
  ·simp [h1, h2]
theorem Holds.exch3 {enc : α → List Value} {W : World} {blk : Nat} {t : TypeId} {n : Nat} {g : Nat → α} (h : Holds enc 3 W blk t n g) (hk : ∀ x, (enc x).length = 3) {i j : Nat} (hi : i < n) (hj : j < n) {u0 u1 u2 v0 v1 v2 : Value} (hx : enc (g i) = [u0, u1, u2]) (hy : enc (g j) = [v0, v1, v2]) :
  Holds enc 3 ((((((W.setCell ⟨blk, i * 3, none⟩ v0).setCell ⟨blk, i * 3 + 1, none⟩ v1).setCell ⟨blk, i * 3 + 2, none⟩ v2).setCell ⟨blk, j * 3, none⟩ u0).setCell ⟨blk, j * 3 + 1, none⟩ u1).setCell ⟨blk, j * 3 + 2, none⟩ u2) blk t n (exch g i j) := by
 refine ((h.put3 hk hi (g j) hy).put3 hk hj (g i) hx).congr fun k hk => ?_
 unfold exch
 by_cases h1 : k = j
 ·subst h1
  by_cases h2 : k = i
  ·subst h2; simp
  ·simp [h2]
 ·by_cases h2 : k = i
  ·subst h2; simp [h1]
  ·simp [h1, h2]
theorem Holds.drew {enc : α → List Value} {k : Nat} {W : World} {blk : Nat} {t : TypeId} {n : Nat} {g : Nat → α} (h : Holds enc k W blk t n g) : Holds enc k W.drew blk t n g := h
theorem step_drew (S : Nat → Prop) {A B : World} (h : Step S S A B) : Step S S A B.drew := ⟨h.os, h.tape, h.output, h.size, h.keep, h.sub⟩
theorem far_cell {W : World} {blk o o' : Nat} {u : Value} (h : W.cell? ⟨blk, o', none⟩ = some u) (hne : o ≠ o') (v : Value) : (W.setCell ⟨blk, o, none⟩ v).cell? ⟨blk, o', none⟩ = some u := by
 rw [World.cell?_setCell_other (h := fun e => hne (congrArg Addr.off e))]; exact h
theorem step_exch2 (W : World) (blk a b c d : Nat) (v0 v1 u0 u1 : Value) : Step (OnlyB blk) (OnlyB blk) W ((((W.setCell ⟨blk, a, none⟩ v0).setCell ⟨blk, b, none⟩ v1).setCell ⟨blk, c, none⟩ u0).setCell ⟨blk, d, none⟩ u1) :=
 (((step_set W blk a v0).trans (step_set _ blk b v1)).trans (step_set _ blk c u0)).trans (step_set _ blk d u1)
theorem step_exch3 (W : World) (blk a b c d e f : Nat) (v0 v1 v2 u0 u1 u2 : Value) : Step (OnlyB blk) (OnlyB blk) W ((((((W.setCell ⟨blk, a, none⟩ v0).setCell ⟨blk, b, none⟩ v1).setCell ⟨blk, c, none⟩ v2).setCell ⟨blk, d, none⟩ u0).setCell ⟨blk, e, none⟩ u1).setCell ⟨blk, f, none⟩ u2) :=
 (step_exch2 W blk a b c d v0 v1 v2 u0).trans ((step_set _ blk e u1).trans (step_set _ blk f u2))
structure BelowOf (w : World) where
 W : World
 h : Below w.heap.size w W
instance (w : World) : Inhabited (BelowOf w) := ⟨⟨w, Below.refl _ _⟩⟩
theorem wp_region_quiet_below {P : Program} {id : Nat} {Q : Exit → Act → World → Prop} {a : Act} {w : World} {l : List Oper} (hm : P.follows .mixedOrders = true) (hB : Region.lexB .any l.toArray = true)
  (h : wpQuiet P l.toArray (fun w' => ∃ p : BelowOf w, w' = p.W) (fun a' => ∀ w', (∃ p : BelowOf w, w' = p.W) → Q .normal a' w') l a) : (Code.region id l.toArray true).wp P Q a w :=
 wp_region_quiet (C := fun w' => ∃ p : BelowOf w, w' = p.W) hm hB ⟨⟨w.drew, below_drew (Below.refl _ _)⟩, rfl⟩ (by simpa using h)
theorem below_calls {P : Program} {f : FuncId} {args : Array Value} {w : World} {p : BelowOf w} {v : Value} (h : Calls P f args p.W fun e w' => e = .returned v ∧ Below p.W.heap.size p.W w') : Calls P f args p.W fun e w'' => e = .returned v ∧ ∃ q : BelowOf w, w'' = q.W :=
 h.mono fun _ w' ⟨he, hb⟩ => ⟨he, ⟨w', p.h.trans (hb.mono p.h.size)⟩, rfl⟩
theorem BelowOf.cell {w : World} {a : Addr} {v : Value} (h : w.cell? a = some v) (p : BelowOf w) : p.W.cell? a = some v := pw_cell_below p.h h
end Go.Proofs.YtmkgecapkeojaaaGreat.SortM
end
section
namespace Go.Proofs.YtmkgecapkeojaaaGreat.Canon
variable {K : Type} [DecidableEq K]
structure KOrd (lt : K → K → Bool) : Prop where
 irrefl : ∀ a, lt a a = false
 trans : ∀ a b c, lt a b = true → lt b c = true → lt a c = true
 tri : ∀ a b, lt a b = true ∨ a = b ∨ lt b a = true
def J (l : List (K × Int)) (k : K) : Int := match l with
 | [] => 0
 | x :: xs => (if x.1 = k then x.2 else 0) + J xs k
theorem J_nil (k : K) : J ([] : List (K × Int)) k = 0 := rfl
theorem J_cons (x : K × Int) (xs : List (K × Int)) (k : K) : J (x :: xs) k = (if x.1 = k then x.2 else 0) + J xs k := rfl
theorem J_append (k : K) : ∀ (a b : List (K × Int)), J (a ++ b) k = J a k + J b k
 | [], b => by simp [J_nil]
 | x :: xs, b => by rw [List.cons_append, J_cons, J_cons, J_append k xs b]; omega
theorem J_perm (k : K) {a b : List (K × Int)} (h : a.Perm b) : J a k = J b k := by
 induction h with
 | nil => rfl
 | cons x _ ih => rw [J_cons, J_cons, ih]
 | swap x y l => rw [J_cons, J_cons, J_cons, J_cons]; omega
 | trans _ _ ih1 ih2 => exact ih1.trans ih2
theorem J_none (k : K) : ∀ (l : List (K × Int)), (∀ x ∈ l, x.1 ≠ k) → J l k = 0
 | [], _ => rfl
 | x :: xs, h => by rw [J_cons, if_neg (h x List.mem_cons_self), J_none k xs (fun y hy => h y (List.mem_cons_of_mem _ hy))]; rfl
theorem J_filter0 (k : K) : ∀ (l : List (K × Int)), J (l.filter fun x => decide (x.2 ≠ 0)) k = J l k
 | [] => rfl
 | x :: xs => by
  rw [List.filter_cons]
  by_cases h : x.2 = 0
  ·rw [if_neg (by simp [h]), J_filter0 k xs, J_cons, h]
   split <;> omega
  ·rw [if_pos (by simp [h]), J_cons, J_cons, J_filter0 k xs]
theorem J_filterK (p : K → Bool) (k : K) : ∀ (l : List (K × Int)), J (l.filter fun x => p x.1) k = if p k = true then J l k else 0
 | [] => by simp [J_nil]
 | x :: xs => by
  rw [List.filter_cons]
  by_cases h : p x.1 = true
  ·rw [if_pos h, J_cons, J_cons, J_filterK p k xs]
   by_cases e : x.1 = k
   ·rw [← e, if_pos h, if_pos h]
   ·rw [if_neg e]; split <;> omega
  ·rw [if_neg h, J_filterK p k xs, J_cons]
   by_cases e : x.1 = k
   ·rw [← e, if_neg h, if_neg h]
   ·rw [if_neg e]; split <;> omega
def IsCanon (lt : K → K → Bool) (l : List (K × Int)) : Prop := l.Pairwise (fun a b => lt a.1 b.1 = true) ∧ ∀ x ∈ l, x.2 ≠ 0
theorem IsCanon.tail {K : Type} {lt : K → K → Bool} {x : K × Int} {l : List (K × Int)} (h : IsCanon lt (x :: l)) : IsCanon lt l := ⟨(List.pairwise_cons.1 h.1).2, fun y hy => h.2 y (List.mem_cons_of_mem _ hy)⟩
theorem canon_head {lt : K → K → Bool} (o : KOrd lt) {x : K × Int} {l : List (K × Int)} (h : IsCanon lt (x :: l)) : J (x :: l) x.1 = x.2 := by
 rw [J_cons, if_pos rfl, J_none x.1 l (fun y hy e => ?_)]
 ·omega
 ·have := (List.pairwise_cons.1 h.1).1 y hy
  rw [e, o.irrefl] at this; cases this
theorem canon_below {lt : K → K → Bool} (o : KOrd lt) {x : K × Int} {l : List (K × Int)} (h : IsCanon lt (x :: l)) {k : K} (hk : lt k x.1 = true) : J (x :: l) k = 0 := by
 refine J_none k _ (fun y hy e => ?_)
 rcases List.mem_cons.1 hy with rfl | hy
 ·rw [e, o.irrefl] at hk; cases hk
 ·have := o.trans _ _ _ hk ((List.pairwise_cons.1 h.1).1 y hy)
  rw [e, o.irrefl] at this; cases this
theorem canon_uniq {lt : K → K → Bool} (o : KOrd lt) : ∀ (a b : List (K × Int)), IsCanon lt a → IsCanon lt b → (∀ k, J a k = J b k) → a = b
 | [], [], _, _, _ => rfl
 | [], y :: ys, _, hb, h => by
  have h1 := h y.1; rw [canon_head o hb, J_nil] at h1; exact absurd h1.symm (hb.2 y List.mem_cons_self)
 | x :: xs, [], ha, _, h => by
  have h1 := h x.1; rw [canon_head o ha, J_nil] at h1; exact absurd h1 (ha.2 x List.mem_cons_self)
 | x :: xs, y :: ys, ha, hb, h => by
  rcases o.tri x.1 y.1 with c | c | c
  ·have h1 := h x.1
   rw [canon_head o ha, canon_below o hb c] at h1; exact absurd h1 (ha.2 x List.mem_cons_self)
  ·have h1 := h x.1
   rw [canon_head o ha, c, canon_head o hb] at h1; have e : x = y := Prod.ext c h1; subst e; rw [canon_uniq o xs ys ha.tail hb.tail (fun k => by have := h k; rw [J_cons, J_cons] at this; omega)]
  ·have h1 := h y.1
   rw [canon_head o hb, canon_below o ha c] at h1; exact absurd h1.symm (hb.2 y List.mem_cons_self)
def ins (lt : K → K → Bool) (x : K × Int) : List (K × Int) → List (K × Int)
 | [] => [x]
 | y :: ys => if x.1 = y.1 then (y.1, x.2 + y.2) :: ys else if lt x.1 y.1 = true then x :: y :: ys else y :: ins lt x ys
def canon (lt : K → K → Bool) (l : List (K × Int)) : List (K × Int) := (l.foldr (ins lt) []).filter fun x => decide (x.2 ≠ 0)
theorem J_ins (lt : K → K → Bool) (x : K × Int) (k : K) : ∀ (l : List (K × Int)), J (ins lt x l) k = J (x :: l) k
 | [] => rfl
 | y :: ys => by
  unfold ins
  split
  ·rename_i h
   rw [J_cons, J_cons, J_cons, h]
   show (if y.1 = k then x.2 + y.2 else 0) + _ = _
   split <;> omega
  ·split
   ·rfl
   ·rw [J_cons, J_ins lt x k ys, J_cons, J_cons, J_cons]; omega
theorem J_canon (lt : K → K → Bool) (l : List (K × Int)) (k : K) : J (canon lt l) k = J l k := by
 unfold canon; rw [J_filter0]
 induction l with
 | nil => rfl
 | cons x xs ih => rw [List.foldr_cons, J_ins, J_cons, J_cons, ih]
theorem ins_mem (lt : K → K → Bool) (x : K × Int) : ∀ (l : List (K × Int)) (z : K × Int), z ∈ ins lt x l → z.1 = x.1 ∨ ∃ y ∈ l, z.1 = y.1
 | [], z, h => by rw [ins, List.mem_singleton] at h; exact .inl (by rw [h])
 | y :: ys, z, h => by
  unfold ins at h
  split at h
  ·rcases List.mem_cons.1 h with rfl | h
   ·exact .inr ⟨y, List.mem_cons_self, rfl⟩
   ·exact .inr ⟨z, List.mem_cons_of_mem _ h, rfl⟩
  ·split at h
   ·rcases List.mem_cons.1 h with rfl | h
    ·exact .inl rfl
    ·exact .inr ⟨z, h, rfl⟩
   ·rcases List.mem_cons.1 h with rfl | h
    ·exact .inr ⟨z, List.mem_cons_self, rfl⟩
    ·rcases ins_mem lt x ys z h with e | ⟨w, hw, e⟩
     ·exact .inl e
     ·exact .inr ⟨w, List.mem_cons_of_mem _ hw, e⟩
theorem ins_pair {lt : K → K → Bool} (o : KOrd lt) (x : K × Int) : ∀ (l : List (K × Int)), l.Pairwise (fun a b => lt a.1 b.1 = true) → (ins lt x l).Pairwise (fun a b => lt a.1 b.1 = true)
 | [], _ => by rw [ins]; exact List.pairwise_singleton _ _
 | y :: ys, h => by
  obtain ⟨h1, h2⟩ := List.pairwise_cons.1 h; unfold ins
  split
  ·exact List.pairwise_cons.2 ⟨h1, h2⟩
  ·rename_i hne
   split
   ·rename_i hlt
    refine List.pairwise_cons.2 ⟨fun z hz => ?_, h⟩
    rcases List.mem_cons.1 hz with rfl | hz
    ·exact hlt
    ·exact o.trans _ _ _ hlt (h1 z hz)
   ·rename_i hge
    refine List.pairwise_cons.2 ⟨fun z hz => ?_, ins_pair o x ys h2⟩
    rcases ins_mem lt x ys z hz with e | ⟨w, hw, e⟩
    ·rw [e]
     rcases o.tri x.1 y.1 with c | c | c
     ·exact absurd c hge
     ·exact absurd c hne
     ·exact c
    ·rw [e]; exact h1 w hw
theorem canon_is {lt : K → K → Bool} (o : KOrd lt) (l : List (K × Int)) : IsCanon lt (canon lt l) := by
 refine ⟨List.Pairwise.filter _ ?_, fun x hx => by simpa using (List.mem_filter.1 hx).2⟩
 induction l with
 | nil => exact List.Pairwise.nil
 | cons x xs ih => exact ins_pair o x _ ih
theorem canon_eq {lt : K → K → Bool} (o : KOrd lt) {l out : List (K × Int)} (h : IsCanon lt out) (hJ : ∀ k, J out k = J l k) : out = canon lt l := canon_uniq o _ _ h (canon_is o l) (fun k => (hJ k).trans (J_canon lt l k).symm)
theorem canon_congr {lt : K → K → Bool} (o : KOrd lt) {a b : List (K × Int)} (h : ∀ k, J a k = J b k) : canon lt a = canon lt b := canon_eq o (canon_is o a) (fun k => (J_canon lt a k).trans (h k))
theorem IsCanon.filter {K : Type} {lt : K → K → Bool} {l : List (K × Int)} (h : IsCanon lt l) (p : K × Int → Bool) : IsCanon lt (l.filter p) := ⟨h.1.filter _, fun x hx => h.2 x (List.mem_filter.1 hx).1⟩
end Go.Proofs.YtmkgecapkeojaaaGreat.Canon
end
section
namespace Go.Proofs.YtmkgecapkeojaaaGreat.Cmp
variable {β γ : Type}
structure IsCmp (c : β → β → Int) : Prop where
 zero : ∀ x y, c x y = 0 ↔ x = y
 anti : ∀ x y, c x y < 0 ↔ 0 < c y x
 trans : ∀ x y z, c x y < 0 → c y z < 0 → c x z < 0
theorem IsCmp.self {c : β → β → Int} (h : IsCmp c) (x : β) : c x x = 0 := (h.zero x x).2 rfl
theorem IsCmp.le_trans {c : β → β → Int} (h : IsCmp c) {x y z : β} (h1 : c x y ≤ 0) (h2 : c y z ≤ 0) : c x z ≤ 0 := by
 by_cases e1 : c x y = 0
 ·rw [(h.zero x y).1 e1]; exact h2
 ·by_cases e2 : c y z = 0
  ·rw [← (h.zero y z).1 e2]; exact h1
  ·have := h.trans x y z (by omega) (by omega); omega
theorem IsCmp.not_lt {c : β → β → Int} (h : IsCmp c) {x y : β} : ¬ c y x < 0 ↔ c x y ≤ 0 := by
 have h1 := h.anti y x; have h2 := h.anti x y; omega
def icmp (n m : Int) : Int := if n < m then -1 else if n > m then 1 else 0
theorem icmp_is : IsCmp icmp := by
 refine ⟨fun x y => ?_, fun x y => ?_, fun x y z => ?_⟩ <;> unfold icmp
 ·split
  ·simp; omega
  ·split <;> simp <;> omega
 ·repeat' split
  all_goals simp
  all_goals omega
 ·repeat' split
  all_goals simp
  all_goals omega
def bcmp (a b : UInt8) : Int := if a < b then -1 else if b < a then 1 else 0
theorem bcmp_icmp (a b : UInt8) : bcmp a b = icmp (a.toNat : Int) (b.toNat : Int) := by
 unfold bcmp icmp; simp only [UInt8.lt_iff_toNat_lt]
 repeat' split
 all_goals first | rfl | omega
theorem bcmp_is : IsCmp bcmp := by
 refine ⟨fun x y => ?_, fun x y => ?_, fun x y z => ?_⟩
 ·rw [bcmp_icmp, icmp_is.zero]
  constructor
  ·intro h; exact UInt8.toNat_inj.1 (by omega)
  ·intro h; rw [h]
 ·rw [bcmp_icmp, bcmp_icmp]; exact icmp_is.anti _ _
 ·rw [bcmp_icmp, bcmp_icmp, bcmp_icmp]; exact icmp_is.trans _ _ _
def lexC (c : β → β → Int) : List β → List β → Int
 | [], [] => 0
 | [], _ :: _ => -1
 | _ :: _, [] => 1
 | x :: xs, y :: ys => if c x y = 0 then lexC c xs ys else c x y
theorem lexC_zero {c : β → β → Int} (h : IsCmp c) : ∀ (x y : List β), lexC c x y = 0 ↔ x = y
 | [], [] => by simp [lexC]
 | [], _ :: _ => by simp [lexC]
 | _ :: _, [] => by simp [lexC]
 | x :: xs, y :: ys => by
  unfold lexC
  split
  ·rename_i e
   rw [lexC_zero h xs ys, (h.zero x y).1 e]; simp
  ·rename_i e
   constructor
   ·intro e2; exact absurd e2 e
   ·intro e2
    have := (List.cons.inj e2).1; exact absurd ((h.zero x y).2 this) e
theorem lexC_anti {c : β → β → Int} (h : IsCmp c) : ∀ (x y : List β), lexC c x y < 0 ↔ 0 < lexC c y x
 | [], [] => by simp [lexC]
 | [], _ :: _ => by simp [lexC]
 | _ :: _, [] => by simp [lexC]
 | x :: xs, y :: ys => by
  unfold lexC; have a1 := h.anti x y; have a2 := h.anti y x
  by_cases e : c x y = 0
  ·have e' : c y x = 0 := by rw [(h.zero x y).1 e]; exact h.self y
   rw [if_pos e, if_pos e']; exact lexC_anti h xs ys
  ·have e' : ¬ c y x = 0 := fun e2 => e (by rw [(h.zero y x).1 e2]; exact h.self x)
   rw [if_neg e, if_neg e']; exact a1
theorem lexC_trans {c : β → β → Int} (h : IsCmp c) : ∀ (x y z : List β), lexC c x y < 0 → lexC c y z < 0 → lexC c x z < 0
 | [], [], _, h1, _ => by simp [lexC] at h1
 | _ :: _, [], _, h1, _ => by simp [lexC] at h1
 | _, _ :: _, [], _, h2 => by simp [lexC] at h2
 | [], _ :: _, _ :: _, _, _ => by simp [lexC]
 | x :: xs, y :: ys, z :: zs, h1, h2 => by
  unfold lexC at h1 h2 ⊢
  by_cases e : c x y = 0
  ·obtain rfl := (h.zero x y).1 e
   rw [if_pos e] at h1
   by_cases e2 : c x z = 0
   ·rw [if_pos e2] at h2 ⊢
    exact lexC_trans h xs ys zs h1 h2
   ·rw [if_neg e2] at h2 ⊢; exact h2
  ·rw [if_neg e] at h1
   by_cases e2 : c y z = 0
   ·obtain rfl := (h.zero y z).1 e2
    rw [if_neg e]; exact h1
   ·rw [if_neg e2] at h2
    have h3 := h.trans x y z h1 h2; rw [if_neg (by omega)]; exact h3
theorem lexC_is {c : β → β → Int} (h : IsCmp c) : IsCmp (lexC c) := ⟨lexC_zero h, lexC_anti h, lexC_trans h⟩
theorem compareBytes_lex : ∀ (a b : List UInt8), Lib.compareBytes a b = lexC bcmp a b
 | [], [] => rfl
 | [], _ :: _ => rfl
 | _ :: _, [] => rfl
 | a :: xs, b :: ys => by
  unfold Lib.compareBytes lexC; rw [compareBytes_lex xs ys]; unfold bcmp
  by_cases h1 : a < b
  ·simp [h1]
  ·by_cases h2 : b < a
   ·simp [h1, h2]
   ·simp [h1, h2]
def pairC (c : β → β → Int) (d : γ → γ → Int) (x y : β × γ) : Int := if c x.1 y.1 = 0 then d x.2 y.2 else c x.1 y.1
theorem pairC_is {c : β → β → Int} {d : γ → γ → Int} (h : IsCmp c) (k : IsCmp d) : IsCmp (pairC c d) := by
 refine ⟨fun x y => ?_, fun x y => ?_, fun x y z => ?_⟩
 ·unfold pairC
  split
  ·rename_i e
   rw [k.zero]; have := (h.zero _ _).1 e
   constructor
   ·intro e2; exact Prod.ext this e2
   ·intro e2; rw [e2]
  ·rename_i e
   constructor
   ·intro e2; exact absurd e2 e
   ·intro e2; exact absurd ((h.zero _ _).2 (by rw [e2])) e
 ·unfold pairC
  have a1 := h.anti x.1 y.1; have z1 := h.zero x.1 y.1; have z2 := h.zero y.1 x.1
  by_cases e : c x.1 y.1 = 0
  ·rw [if_pos e, if_pos (z2.2 (z1.1 e).symm)]; exact k.anti _ _
  ·rw [if_neg e, if_neg (fun e2 => e (z1.2 (z2.1 e2).symm))]; exact a1
 ·unfold pairC
  intro h1 h2
  by_cases e : c x.1 y.1 = 0
  ·rw [if_pos e] at h1
   have ee := (h.zero _ _).1 e; rw [ee]
   by_cases e2 : c y.1 z.1 = 0
   ·rw [if_pos e2] at h2 ⊢; exact k.trans _ _ _ h1 h2
   ·rw [if_neg e2] at h2 ⊢; exact h2
  ·rw [if_neg e] at h1
   by_cases e2 : c y.1 z.1 = 0
   ·rw [← (h.zero _ _).1 e2, if_neg e]; exact h1
   ·rw [if_neg e2] at h2
    have := h.trans _ _ _ h1 h2; rw [if_neg (by omega)]; exact this
end Go.Proofs.YtmkgecapkeojaaaGreat.Cmp
end
section
namespace Go.Proofs.YtmkgecapkeojaaaGreat.Stp
open Go.Proofs.YtmkgecapkeojaaaGreat Go.Proofs.YtmkgecapkeojaaaGreat.PDa
open Go.RowKit Go.Proofs.YtmkgecapkeojaaaGreatW.PrintWords Go.Proofs.YtmkgecapkeojaaaGreatW.PrintLast Go.Proofs.YtmkgecapkeojaaaGreatW.PrintMore
theorem ix_mem_take {α : Type} (l : List α) (k : Nat) (h : k < l.length) (x : α) : x ∈ l.take (k + 1) ↔ x ∈ l.take k ∨ x = l[k] := by
 rw [List.take_add_one, List.getElem?_eq_getElem h, List.mem_append]; simp only [Option.toList_some, List.mem_singleton]
theorem ix_jump (p : S85 → Bool) (fn : Nat) (A0 : Option Addr) (c0 : Nat) (l : List S85) (w : World)
  (hp : ∀ (x : S85) (w1 : World), x ∈ l → Below w.heap.size w w1 → Calls Tryz.prog fn #[.agg #[.int .i64 x.f0, .int .i64 x.f1]] w1 fun e w' => e = .returned (.bool (p x)) ∧ Below w1.heap.size w1 w')
  (hfn : ∀ args w, (callFunc fn args).run Tryz.prog w = .ok (.enter fn args) w) (hr0 : Kd.C k85 w A0 l.length l) (hl : l.length ≤ 17592186044416) :
  Calls Tryz.prog 168 #[.slice A0 l.length c0, .func (Fn.func fn) #[] #[]] w fun e w' => (∃ r : Int, e = .returned (.int .i64 r) ∧ decide (0 ≤ r) = l.any p) ∧ Below w.heap.size w w' := by
 have HR := Aside0.mk hr0; have HP := Lib.hid hp; clear hr0 hp; go_enter Tryz.func168, Tryz.ntmps168; go_wp2
 go_loopw [8] (fun v8 wr => ∃ k : Nat, k ≤ l.length ∧ v8 = .int .i64 (k : Int) ∧ Aside0 (∀ x ∈ l.take k, p x = false) ∧ Aside0 (Below w.heap.size w wr)) (fun v8 wr => l.length - (intOf v8).toNat)
 case atStart => exact ⟨0, by omega, rfl, ⟨by simp⟩, ⟨Below.refl _ _⟩⟩
 case round =>
  obtain ⟨k, hk, rfl, HN, HB⟩ := hrel
  by_cases c : k < l.length
  ·obtain ⟨X, hX⟩ : ∃ X, l[k] = X := ⟨_, rfl⟩
   obtain ⟨ad, e1, hx0, hx1⟩ := at_T85 (Kd.C_below HR.out HB.out) (k : Int) zq4 zq4; have hrd : rd_T85 l (k : Int) = X := by
    unfold rd_T85; rw [Int.toNat_natCast, List.getD_eq_getElem?_getD, List.getElem?_eq_getElem c]; exact hX
   rw [Int.toNat_natCast, hrd] at hx0 hx1; clear hrd; cases e1; have P := Lib.hid (fun w1 hb => HP.out X w1 (by rw [← hX]; exact List.getElem_mem c) hb); have HX := Lib.hid hX; clear hX; cases hpx : p X
   ·have P2 := Lib.hid (fun w1 hb => by have := P.out w1 hb; rw [hpx] at this; exact this)
    have HPX := Lib.hid hpx; clear P hpx
    go_wp2_with ((with_reducible refine (P2.out _ HB.out).mono ?_); rintro e w' ⟨rfl, hb⟩)
    go_roundw
    case rel =>
     refine ⟨k + 1, by omega, by go_num, ⟨fun x hx => ?_⟩, ⟨HB.out.trans (hb.mono HB.out.size)⟩⟩; have hx' := (ix_mem_take l k c x).1 hx; cases hx' with
     | inl h => exact HN.out x h
     | inr h => rw [h, HX]; exact HPX
    case measure => simp [intOf]; omega
   ·have P2 := Lib.hid (fun w1 hb => by have := P.out w1 hb; rw [hpx] at this; exact this)
    have hany : l.any p = true := by
     rw [List.any_eq_true]; exact ⟨X, by rw [← HX.out]; exact List.getElem_mem c, hpx⟩
    have HANY := Lib.hid hany; clear P hpx hany
    go_wp2_with ((with_reducible refine (P2.out _ HB.out).mono ?_); rintro e w' ⟨rfl, hb⟩)
    go_ret; exact ⟨⟨k, rfl, by rw [HANY.out]; simp⟩, HB.out.trans (hb.mono HB.out.size)⟩
  ·obtain rfl : k = l.length := by omega
   have hany : l.any p = false := by
    rw [List.any_eq_false]; intro x hx; have := HN.out x (by rw [List.take_length]; exact hx); simp [this]
   have HANY := Lib.hid hany; clear hany; go_wp2; go_ret; exact ⟨⟨-1, rfl, by rw [HANY.out]; rfl⟩, HB.out⟩
theorem has_jump (p : S85 → Bool) (fn : Nat) (A0 : Option Addr) (c0 : Nat) (l : List S85) (w : World)
  (hp : ∀ (x : S85) (w1 : World), x ∈ l → Below w.heap.size w w1 → Calls Tryz.prog fn #[.agg #[.int .i64 x.f0, .int .i64 x.f1]] w1 fun e w' => e = .returned (.bool (p x)) ∧ Below w1.heap.size w1 w')
  (hfn : ∀ args w, (callFunc fn args).run Tryz.prog w = .ok (.enter fn args) w) (hr0 : Kd.C k85 w A0 l.length l) (hl : l.length ≤ 17592186044416) :
  Calls Tryz.prog 149 #[.slice A0 l.length c0, .func (Fn.func fn) #[] #[]] w fun e w' => e = .returned (.bool (l.any p)) ∧ Below w.heap.size w w' := by
 have C := Lib.hid (ix_jump p fn A0 c0 l w hp hfn hr0 hl); obtain ⟨b, hb⟩ : ∃ b, l.any p = b := ⟨_, rfl⟩
 rw [hb] at C ⊢; clear hp hfn hr0 hl hb; go_enter Tryz.func149, Tryz.ntmps149
 go_wp2_with (go_at_call 168; ((with_reducible refine C.out.mono ?_); rintro e w' ⟨⟨r, rfl, hr⟩, hb⟩; have HRR := Lib.hid hr; clear hr))
 go_ret; exact ⟨by rw [← HRR.out]; rfl, hb⟩
def fairB (n : Int) : Bool := decide (n ≤ 1048576) && decide (-1048576 ≤ n)
theorem fair_f (n : Int) : step_fair.f n = some (fairB n) := by
 unfold step_fair.f fairB
 by_cases h : n ≤ 1048576
 ·simp [h]
 ·simp [h]
theorem norm1_calls (x : S85) (w : World) : Calls Tryz.prog 150 #[.agg #[.int .i64 x.f0, .int .i64 x.f1]] w fun e w' => e = .returned (.bool (!fairB x.f1)) ∧ Below w.heap.size w w' := by
 have hu := Tryz.underlying85; have HB := Lib.hid (below_alloc (Below.refl _ w) (.cells #[.int .i64 x.f0, .int .i64 x.f1] 85 (0, 0))); have C := Lib.hid (fun w1 => step_fair.calls x.f1 _ w1 (fair_f x.f1)); generalize fairB x.f1 = b at *; go_enter Tryz.func150, Tryz.ntmps150
 go_wp2_with (go_at_call 95; ((with_reducible refine (C.out _).mono ?_); rintro e w' ⟨rfl, hb⟩))
 go_ret; exact ⟨rfl, HB.out.trans (hb.below.mono HB.out.size)⟩
def timeB (n : Int) : Bool := decide (n < -1) || decide (n > 1125899906842624)
theorem norm2_calls (x : S85) (w : World) : Calls Tryz.prog 151 #[.agg #[.int .i64 x.f0, .int .i64 x.f1]] w fun e w' => e = .returned (.bool (timeB x.f0)) ∧ Below w.heap.size w w' := by
 have hu := Tryz.underlying85; have HB := Lib.hid (below_alloc (Below.refl _ w) (.cells #[.int .i64 x.f0, .int .i64 x.f1] 85 (0, 0)))
 by_cases h : x.f0 < -1
 ·have e : timeB x.f0 = true := by unfold timeB; simp [h]
  have b1 : decide (x.f0 < -1) = true := decide_eq_true h; rw [e]; clear h e; go_enter Tryz.func151, Tryz.ntmps151; go_wp2; go_ret; exact ⟨rfl, HB.out⟩
 ·have b1 : decide (x.f0 < -1) = false := decide_eq_false h
  obtain ⟨b, hb⟩ : ∃ b, decide (x.f0 > 1125899906842624) = b := ⟨_, rfl⟩
  have e : timeB x.f0 = b := by unfold timeB; rw [b1, Bool.false_or]; exact hb
  rw [e]; clear h e; cases b
  all_goals
   go_enter Tryz.func151, Tryz.ntmps151; go_wp2; go_ret; exact ⟨rfl, HB.out⟩
theorem compare_f (a b : Int) : cmp_Compare_int.f a b = some (Cmp.icmp a b) := by
 unfold cmp_Compare_int.f Cmp.icmp; simp only [cmp_isNaN_int.f, Option.bind_some]
 repeat' split
 all_goals first | rfl | (exfalso; simp_all; done) | (simp_all; omega) | omega
theorem norm3_calls (x y : S85) (w : World) : Calls Tryz.prog 153 #[.agg #[.int .i64 x.f0, .int .i64 x.f1], .agg #[.int .i64 y.f0, .int .i64 y.f1]] w fun e w' => e = .returned (.int .i64 (Cmp.icmp x.f0 y.f0)) ∧ Below w.heap.size w w' := by
 have hu := Tryz.underlying85; have HB := Lib.hid (below_alloc (below_alloc (Below.refl _ w) (.cells #[.int .i64 x.f0, .int .i64 x.f1] 85 (0, 0))) (.cells #[.int .i64 y.f0, .int .i64 y.f1] 85 (0, 0))); have C := Lib.hid (fun w1 => cmp_Compare_int.calls x.f0 y.f0 _ w1 (compare_f x.f0 y.f0)); generalize Cmp.icmp x.f0 y.f0 = r at *; go_enter Tryz.func153, Tryz.ntmps153
 go_wp2_with (go_at_call 106; ((with_reducible refine (C.out _).mono ?_); rintro e w' ⟨rfl, hb⟩))
 go_ret; exact ⟨rfl, HB.out.trans (hb.below.mono HB.out.size)⟩
def clone_Jump.f (l0 : List S85) : Option (List S85) := if l0.length < 4398046511104 then some l0 else none
theorem clone_Jump.calls (A0 : Option Addr) (c0 : Nat) (l0 : List S85) (r : List S85) (w : World) (hr0 : Kd.C k85 w A0 l0.length l0) (hc0 : l0.length ≤ c0) (h : clone_Jump.f l0 = some r) :
  Calls Tryz.prog 114 #[.slice A0 l0.length c0] w fun e w' => ∃ v0_ : Value, e = .returned v0_ ∧ Kd.R k85 85 w' w.heap.size (fun _ => True) v0_ r ∧ Below w.heap.size w w' := by
 have hlen : l0.length < 4398046511104 := by
  unfold clone_Jump.f at h
  by_cases hl : l0.length < 4398046511104
  ·exact hl
  ·rw [if_neg hl] at h; simp at h
 obtain rfl : l0 = r := by
  unfold clone_Jump.f at h; rw [if_pos hlen] at h; exact Option.some.inj h
 clear h; have LM := Aside0.mk hlen; clear hlen; have HR0 := Aside0.mk hr0; have HC0 := Aside0.mk hc0; clear hr0 hc0; have HB := Aside0.mk (Below.refl w.heap.size w); cases A0 with
 | none =>
  have hn : ∀ w : World, (binOp .eql 43 (.slice none l0.length c0) (.slice none 0 0)).run Tryz.prog w = .ok (.bool true) w := fun w => Lib.run_eql_slice_nil w _ _ none l0.length c0 0 0 Tryz.underlying43
  have h0 : l0 = [] := by
   have := HR0.out.2.2
   rcases l0 with _ | ⟨x, xs⟩
   ·rfl
   ·obtain ⟨ad, h', _⟩ := this zq30
    cases h'
  replace h0 := Lib.hid h0; go_enter Tryz.func114, Tryz.ntmps114; go_wp2; go_ret; exact ⟨_, rfl, by rw [h0.out]; exact Kd.R_nil _ _ _ _ _, Below.refl _ _⟩
 | some ad =>
  have hn : ∀ w : World, (binOp .eql 43 (.slice (some ad) l0.length c0) (.slice none 0 0)).run Tryz.prog w = .ok (.bool false) w := fun w => Lib.run_eql_slice_nil w _ _ (some ad) l0.length c0 0 0 Tryz.underlying43
  go_enter Tryz.func114, Tryz.ntmps114
  go_wp2_with (first
   | ((with_reducible refine gate_dst (N := 5) rfl ?_); refine Kd.R_lit k85 _ 85 ?hg (N := 5) ?hd (xs := ([] : List S85)) (inner := []) (ok := fun _ => True) (okp := fun _ => True) ?hr ?hp (fun _ hk => hk) trivial (Below.refl _ _) (Nat.le_refl _) zq30 ?_; (case hd => rfl); (case hg => rfl); (case hr => first | (go_simp; done) | (go_simp; rfl)); (case hp => exact (Reps.none _ _)); intro v159 w23 ho24 hb hg_ hnew_; clear hg_ hnew_; have HO := Aside0.mk (Kd.R_lower ho24 (below_size HB.out)); have HR1 := Aside0.mk (Kd.C_below HR0.out hb); have HB1 := Aside0.mk (below_step HB.out hb); clear hb ho24)
   | ((with_reducible refine gate_dst (N := 7) rfl ?_); refine Kd.R_append_rows k85 (w0 := w) w.heap.size rfl (.tmp 5) (.tmp 6) 43 85 (.agg #[(.int .i64 0), (.int .i64 0)]) 16 rfl Tryz.underlying43 info85 rfl zq34 zq4 v159 [] l0 _ _ _ (fun _ => True) (fun _ => False) rfl rfl ?aO ?aR (fun _ _ h => h) (fun _ h => h.elim) (fun _ _ => trivial) ?aB ?aS ?aL ?_; (case aO => exact HO.out); (case aR => exact HR1.out); (case aB => exact HB1.out); (case aS => exact below_size HB1.out); (case aL => have := LM.out; simp only [List.length_nil, Nat.zero_add]; omega); intro v167 w26 ho hb hg hat; have HO2 := Aside0.mk ho; have HB2 := Aside0.mk hb; clear ho hb hg hat))
  go_ret; exact ⟨_, rfl, HO2.out, HB2.out⟩
end Go.Proofs.YtmkgecapkeojaaaGreat.Stp
end
section
namespace Go.Proofs.YtmkgecapkeojaaaGreat.SortJ
open Go Go.RowKit Go.Proofs.YtmkgecapkeojaaaGreatW.PrintWords Go.Proofs.YtmkgecapkeojaaaGreatW.PrintLast Go.Proofs.YtmkgecapkeojaaaGreatW.PrintMore
open Go.Proofs.YtmkgecapkeojaaaGreat.Run Go.Proofs.YtmkgecapkeojaaaGreat.SortP Go.Proofs.YtmkgecapkeojaaaGreat.SortM Go.Proofs.YtmkgecapkeojaaaGreat.PDa
structure El where
 at' : Int
 net : Int
def enc (x : El) : List Value := [.int .i64 x.at', .int .i64 x.net]
theorem enc_len (x : El) : (enc x).length = 2 := rfl
theorem insertion_calls (cf : El → El → Int) (o : Ord cf) (OK : El → Prop) (blk cap n : Nat) (g : Nat → El) (fn : Nat) (a b : Nat) (w : World) (hH : Holds enc 2 w blk 85 n g) (hok : ∀ i, i < n → OK (g i)) (hab : a ≤ b) (hb : b ≤ n) (hn : n ≤ 17592186044416)
  (hfn : ∀ args w, (callFunc fn args).run Tryz.prog w = .ok (.enter fn args) w) (hcmp : ∀ (x y : El) (w1 : World), OK x → OK y → Step (OnlyB blk) (OnlyB blk) w w1 → Calls Tryz.prog fn #[.agg #[.int .i64 x.at', .int .i64 x.net], .agg #[.int .i64 y.at', .int .i64 y.net]] w1 fun e w' => e = .returned (.int .i64 (cf x y)) ∧ Below w1.heap.size w1 w') :
  Calls Tryz.prog 188 #[.slice (some ⟨blk, 0, none⟩) n cap, .int .i64 (a : Int), .int .i64 (b : Int), .func (.func fn) #[] #[]] w fun e w' =>
   e = .returned (.tuple #[]) ∧ ∃ g', Holds enc 2 w' blk 85 n g' ∧ Up cf g' a b ∧ SameOn g g' a b ∧ Step (OnlyB blk) (OnlyB blk) w w' ∧ (row g' n).Perm (row g n) := by
 have HH := Lib.hid hH; have HOK := Lib.hid hok; have HC := Lib.hid hcmp; clear hH hok hcmp; go_enter Tryz.func188, Tryz.ntmps188; go_wp2
 go_loopw [8] (fun v8 wr => ∃ (i : Nat) (g' : Nat → El), a < i ∧ i ≤ b + 1 ∧ v8 = .int .i64 (i : Int) ∧ Aside0 (Up cf g' a i ∨ b ≤ a) ∧ Aside0 (SameOn g g' a b) ∧ Aside0 (Holds enc 2 wr blk 85 n g') ∧ Aside0 (Step (OnlyB blk) (OnlyB blk) w wr) ∧ Aside0 ((row g' n).Perm (row g n))) (fun v8 wr => b + 1 - (intOf v8).toNat)
 case atStart => exact ⟨a + 1, g, by omega, by omega, by go_num, ⟨.inl (Up.one cf g a (a + 1) zq4)⟩, ⟨SameOn.refl g a b⟩, ⟨HH.out⟩, ⟨Step.refl _ _⟩, ⟨List.Perm.refl _⟩⟩
 case round =>
  obtain ⟨i, g', hai, hib, rfl, HU, HSM, HO, HS, HP⟩ := hrel
  by_cases ci : i < b
  ·have HU2 := Lib.hid (show Up cf g' a i from HU.out.resolve_right zq4)
   go_wp2
   go_loopw [9] (fun v9 wr2 => ∃ (j : Nat) (g2 : Nat → El), a ≤ j ∧ j ≤ i ∧ v9 = .int .i64 (j : Int) ∧ Aside0 (Ins cf g2 a i j) ∧ Aside0 (SameOn g g2 a b) ∧ Aside0 (Holds enc 2 wr2 blk 85 n g2) ∧ Aside0 (Step (OnlyB blk) (OnlyB blk) w wr2) ∧ Aside0 ((row g2 n).Perm (row g n))) (fun v9 wr2 => (intOf v9).toNat)
   case atStart => exact ⟨i, g', by omega, by omega, rfl, ⟨ins_start HU2.out⟩, ⟨HSM.out⟩, ⟨HO.out⟩, ⟨HS.out⟩, ⟨HP.out⟩⟩
   case round =>
    obtain ⟨j, g2, haj, hji, rfl, HI, HSM2, HO2, HS2, HP2⟩ := hrel
    by_cases cj : a < j
    ·obtain ⟨r, hr⟩ : ∃ r, j = r + 1 := ⟨j - 1, by omega⟩
     have hpn : j < n := by omega
     have hrn : r < n := by omega
     obtain ⟨X, hX⟩ : ∃ X, g2 j = X := ⟨_, rfl⟩
     obtain ⟨Y, hY⟩ : ∃ Y, g2 r = Y := ⟨_, rfl⟩
     have hx := fun j' u h => HO2.out.cell (i := j) (j := j') (u := u) hpn h
     have hy := fun j' u h => HO2.out.cell (i := r) (j := j') (u := u) hrn h
     rw [hX] at hx; rw [hY] at hy; have x0 := hx 0 _ rfl; rw [Nat.add_zero] at x0; have x1 := hx 1 _ rfl; have y0 := hy 0 _ rfl; rw [Nat.add_zero] at y0; have y1 := hy 1 _ rfl; have okk : ∀ q, q < n → OK (g2 q) := fun q hq => by
      by_cases c : a ≤ q ∧ q < b
      ·obtain ⟨z, z1, z2, e⟩ := HSM2.out.2 q c.1 c.2
       rw [e]; exact HOK.out z zq4
      ·rw [HSM2.out.1 q zq4]; exact HOK.out q hq
     have CM := Lib.hid (fun (p : BelowOf wr) => HC.out X Y p.W (hX ▸ okk j hpn) (hY ▸ okk r hrn) (HS2.out.trans (Step.of_below p.h))); have e1 : IntKind.i64.wrap ((j : Int) - 1) = (r : Int) := by rw [IntKind.wrap_i64]; omega
     have e2 : (j : Int) - 1 = (r : Int) := by omega
     have l1 : (j : Int) < (n : Int) := by omega
     have l2 : (r : Int) < (n : Int) := by omega
     have bg : decide ((j : Int) > (a : Int)) = true := decide_eq_true zq4; have bg' : (a : Int) < (j : Int) := by omega
     have hu := Tryz.underlying85; obtain ⟨cv, hcv⟩ : ∃ cv, cf X Y = cv := ⟨_, rfl⟩
     rw [hcv] at CM; have x0' := fun p => BelowOf.cell x0 p
     have x1' := fun p => BelowOf.cell x1 p
     have y0' := fun p => BelowOf.cell y0 p
     have y1' := fun p => BelowOf.cell y1 p
     have HX := Lib.hid hX; have HY := Lib.hid hY; have HCV := Lib.hid hcv; have HR := Lib.hid hr; have HPN := Lib.hid hpn; have HRN := Lib.hid hrn
     by_cases hc : cv < 0
     ·have bc : decide (cv < 0) = true := decide_eq_true hc
      clear hx hy hX hY hcv hr hpn hrn okk; go_wp2; refine wp_region_quiet_below zq17 zq17 ?_
      repeat (go_big_quiet_step (exact below_calls (CM.out _)))
      refine wpQuiet_nil ?_; intro wq hw1; have hwq : Below wr.heap.size wr wq := by obtain ⟨p, rfl⟩ := hw1; exact p.h
      clear hw1; have HWQ := Lib.hid hwq; have x0 := pw_cell_below HWQ.out x0; have x1 := pw_cell_below HWQ.out x1; have y0 := pw_cell_below HWQ.out y0; have y1 := pw_cell_below HWQ.out y1; have HO3 := Lib.hid (HO2.out.below hwq); have fz := HO3.out.frozen; have z1 : (wq.setCell ⟨blk, j * 2, none⟩ (.int .i64 Y.at')).cell? ⟨blk, j * 2 + 1, none⟩ = some (.int .i64 X.net) := (far_cell x1 zq46 (.int .i64 Y.at'))
      have t0 : ((wq.setCell ⟨blk, j * 2, none⟩ (.int .i64 Y.at')).setCell ⟨blk, j * 2 + 1, none⟩ (.int .i64 Y.net)).cell? ⟨blk, r * 2, none⟩ = some (.int .i64 Y.at') := (far_cell (far_cell y0 zq46 (.int .i64 Y.at')) zq46 (.int .i64 Y.net))
      have t1 : (((wq.setCell ⟨blk, j * 2, none⟩ (.int .i64 Y.at')).setCell ⟨blk, j * 2 + 1, none⟩ (.int .i64 Y.net)).setCell ⟨blk, r * 2, none⟩ (.int .i64 X.at')).cell? ⟨blk, r * 2 + 1, none⟩ = some (.int .i64 Y.net) := (far_cell (far_cell (far_cell y1 zq46 (.int .i64 Y.at')) zq46 (.int .i64 Y.net)) zq46 (.int .i64 X.at'))
      clear hwq x0' x1' y0' y1'; go_wp2
      go_region
      have HO4 := Lib.hid ((HO3.out.exch2 enc_len HPN.out HRN.out (show enc _ = _ by rw [HX.out]; rfl) (show enc _ = _ by rw [HY.out]; rfl)).drew); have HS4 := Lib.hid (HS2.out.trans ((Step.of_below HWQ.out).trans (step_drew _ (step_exch2 wq blk (j * 2) (j * 2 + 1) (r * 2) (r * 2 + 1) (.int .i64 Y.at') (.int .i64 Y.net) (.int .i64 X.at') (.int .i64 X.net))))); have HP4 := Lib.hid ((exch_perm g2 n j r HPN.out HRN.out).trans HP2.out); have HI4 := Lib.hid (show Ins cf (exch g2 j r) a i r by
       have e := HR.out; have hc2 : cf (g2 j) (g2 r) < 0 := by rw [HX.out, HY.out, HCV.out]; exact of_decide_eq_true bc
       clear bc; subst e; exact ins_step o HI.out zq4 hji hc2)
      have HSM4 := Lib.hid (show SameOn g (exch g2 j r) a b from HSM2.out.trans (SameOn.exch g2 zq4 zq4 zq46 zq46)); go_wp2; go_roundw
      case rel => exact ⟨r, exch g2 j r, by have := HR.out; omega, by have := HR.out; omega, rfl, ⟨HI4.out⟩, ⟨HSM4.out⟩, ⟨HO4.out⟩, ⟨HS4.out⟩, ⟨HP4.out⟩⟩
      case measure => simp [intOf]; have := HR.out; omega
     ·have bc : decide (cv < 0) = false := decide_eq_false hc
      clear hx hy hX hY hcv hr hpn hrn okk; go_wp2; refine wp_region_quiet_below zq17 zq17 ?_
      repeat (go_big_quiet_step (exact below_calls (CM.out _)))
      refine wpQuiet_nil ?_; intro wq hw1; have hwq : Below wr.heap.size wr wq := by obtain ⟨p, rfl⟩ := hw1; exact p.h
      clear hw1; have HWQ := Lib.hid hwq; clear hwq; have HU3 := Lib.hid (show Up cf g2 a (i + 1) from ins_done o HI.out hji (.inr ⟨r, HR.out, by rw [HX.out, HY.out, HCV.out]; exact of_decide_eq_false bc⟩)); go_wp2; go_roundw
      case rel => exact ⟨i + 1, g2, by omega, by omega, by go_num, ⟨.inl HU3.out⟩, ⟨HSM2.out⟩, ⟨HO2.out.below HWQ.out⟩, ⟨HS2.out.trans (Step.of_below HWQ.out)⟩, ⟨HP2.out⟩⟩
      case measure => simp [intOf]; omega
    ·have hja : j = a := by omega
     have bg : decide ((j : Int) > (a : Int)) = false := decide_eq_false zq4; have HU3 := Lib.hid (show Up cf g2 a (i + 1) from ins_done o HI.out hji (.inl zq4)); have HJA := Lib.hid hja; clear hja; go_wp2; refine wp_region_quiet_below zq17 zq17 ?_
     repeat (go_big_quiet_step (fail))
     refine wpQuiet_nil ?_; intro wq hw1; have hwq : Below wr.heap.size wr wq := by obtain ⟨p, rfl⟩ := hw1; exact p.h
     clear hw1; have HWQ := Lib.hid hwq; clear hwq; go_wp2; go_roundw
     case rel => exact ⟨i + 1, g2, by omega, by omega, by go_num, ⟨.inl HU3.out⟩, ⟨HSM2.out⟩, ⟨HO2.out.below HWQ.out⟩, ⟨HS2.out.trans (Step.of_below HWQ.out)⟩, ⟨HP2.out⟩⟩
     case measure => simp [intOf]; omega
  ·have HU2 := Lib.hid (show Up cf g' a b by
    rcases HU.out with h | h
    ·exact h.sub (Nat.le_refl _) zq4
    ·exact Up.one cf g' a b zq4)
   go_wp2
   go_end0
   exact ⟨rfl, g', HO.out, HU2.out, HSM.out, HS.out, HP.out⟩
theorem same_ok {OK : El → Prop} {g g' : Nat → El} {a b n : Nat} (h : ∀ i, i < n → OK (g i)) (hs : SameOn g g' a b) (hb : b ≤ n) {q : Nat} (hq : q < n) : OK (g' q) := by
 by_cases c : a ≤ q ∧ q < b
 ·obtain ⟨z, z1, z2, e⟩ := hs.2 q c.1 c.2
  rw [e]; exact h z zq4
 ·rw [hs.1 q zq4]; exact h q hq
def Bl (cf : El → El → Int) (g : Nat → El) (s n : Nat) : Prop := ∀ a, s ∣ a → Up cf g a (min (a + s) n)
theorem stable_calls (cf : El → El → Int) (o : Ord cf) (OK : El → Prop) (blk cap n : Nat) (fn : Nat) (hn : n ≤ 20) (hfn : ∀ args w, (callFunc fn args).run Tryz.prog w = .ok (.enter fn args) w) (g : Nat → El) (w : World) (hH : Holds enc 2 w blk 85 n g) (hok : ∀ i, i < n → OK (g i))
  (hcmp : ∀ (x y : El) (w1 : World), OK x → OK y → Step (OnlyB blk) (OnlyB blk) w w1 → Calls Tryz.prog fn #[.agg #[.int .i64 x.at', .int .i64 x.net], .agg #[.int .i64 y.at', .int .i64 y.net]] w1 fun e w' => e = .returned (.int .i64 (cf x y)) ∧ Below w1.heap.size w1 w') :
  Calls Tryz.prog 169 #[.slice (some ⟨blk, 0, none⟩) n cap, .int .i64 (n : Int), .func (.func fn) #[] #[]] w fun e w' => e = .returned (.tuple #[]) ∧ ∃ g', Holds enc 2 w' blk 85 n g' ∧ Up cf g' 0 n ∧ SameOn g g' 0 n ∧ Step (OnlyB blk) (OnlyB blk) w w' ∧ (row g' n).Perm (row g n) := by
 have HH := Lib.hid hH; have HOK := Lib.hid hok; have HC := Lib.hid hcmp; clear hH hok hcmp; go_enter Tryz.func169, Tryz.ntmps169; go_wp2
 go_loopw [7, 8] (fun v7 v8 wr => ∃ (a : Nat) (g' : Nat → El), a ≤ n ∧ 20 ∣ a ∧ v7 = .int .i64 (a : Int) ∧ v8 = .int .i64 ((a + 20 : Nat) : Int) ∧ Aside0 (∀ c, 20 ∣ c → c < a → Up cf g' c (c + 20)) ∧ Aside0 (SameOn g g' 0 n) ∧ Aside0 (Holds enc 2 wr blk 85 n g') ∧ Aside0 (Step (OnlyB blk) (OnlyB blk) w wr) ∧ Aside0 ((row g' n).Perm (row g n))) (fun v7 v8 wr => n - (intOf v7).toNat)
 case atStart => exact ⟨0, g, by omega, by omega, rfl, by simp, ⟨fun c _ h => absurd h (Nat.not_lt_zero c)⟩, ⟨SameOn.refl _ _ _⟩, ⟨HH.out⟩, ⟨Step.refl _ _⟩, ⟨List.Perm.refl _⟩⟩
 case round =>
  obtain ⟨a, g', ha, h20, rfl, rfl, HU, HSM, HO, HS, HP⟩ := hrel; have OK1 := Lib.hid (fun q (hq : q < n) => same_ok HOK.out HSM.out (Nat.le_refl n) hq); obtain ⟨b, hb⟩ : ∃ b, a + 20 = b := ⟨_, rfl⟩
  rw [hb]
  by_cases c1 : b ≤ n
  ·have bl : decide ((b : Int) ≤ (n : Int)) = true := decide_eq_true zq4
   go_wp2_with (go_at_call 188; (with_reducible refine (insertion_calls cf o OK blk cap n g' fn a b _ HO.out OK1.out ?ia ?ib (Nat.le_trans hn zq34) hfn (fun x y w9 hx hy hs => HC.out x y w9 hx hy (HS.out.trans hs))).mono ?_); (case ia => omega); (case ib => omega); rintro e w1 ⟨rfl, g2, k1, k2, k3, k4, k5⟩; have HO2 := Lib.hid k1; have U2 := Lib.hid k2; have G2 := Lib.hid k3; have S2 := Lib.hid (HS.out.trans k4); have P2 := Lib.hid (k5.trans HP.out); clear k1 k2 k3 k4 k5)
   go_roundw
   case rel =>
    refine ⟨b, g2, by omega, by omega, rfl, by simp, ⟨fun c h1 h2 => ?_⟩, ⟨HSM.out.trans (G2.out.wide (Nat.zero_le _) c1)⟩, ⟨HO2.out⟩, ⟨S2.out⟩, ⟨P2.out⟩⟩
    by_cases h3 : c < a
    ·exact (HU.out c h1 h3).congr fun q _ h4 => G2.out.1 q (.inl zq4)
    ·have h5 : c = a := by omega
     rw [h5, hb]; exact U2.out
   case measure => simp [intOf]; omega
  ·have bl : decide ((b : Int) ≤ (n : Int)) = false := decide_eq_false zq4
   go_wp2_with (go_at_call 188; (with_reducible refine (insertion_calls cf o OK blk cap n g' fn a n _ HO.out OK1.out ?ja ?jb (Nat.le_trans hn zq34) hfn (fun x y w9 hx hy hs => HC.out x y w9 hx hy (HS.out.trans hs))).mono ?_); (case ja => omega); (case jb => omega); rintro e w1 ⟨rfl, g2, k1, k2, k3, k4, k5⟩; have HO2 := Lib.hid k1; have U2 := Lib.hid k2; have G2 := Lib.hid k3; have S2 := Lib.hid (HS.out.trans k4); have P2 := Lib.hid (k5.trans HP.out); clear k1 k2 k3 k4 k5)
   have HBL := Lib.hid (show Bl cf g2 20 n from fun c h1 => by
    by_cases h3 : c < a
    ·have h4 := (HU.out c h1 h3).congr fun q _ h4 => G2.out.1 q (.inl zq4)
     rw [Nat.min_eq_left zq4]; exact h4
    ·by_cases h5 : c = a
     ·rw [h5, Nat.min_eq_right zq4]; exact U2.out
     ·exact Up.one cf g2 _ _ zq4)
   have HSM2 := Lib.hid (HSM.out.trans (G2.out.wide (Nat.zero_le _) (Nat.le_refl _))); clear HU HSM HO HS HP OK1 U2 G2
   go_loopw [6, 7, 8, 9] (fun v6 v7 v8 v9 wr => ∃ (s : Nat) (g' : Nat → El), s = 20 ∧ 0 < s ∧ s ≤ 2 * n + 20 ∧ v6 = .int .i64 (s : Int) ∧ Aside0 (Bl cf g' s n) ∧ Aside0 (SameOn g g' 0 n) ∧ Aside0 (Holds enc 2 wr blk 85 n g') ∧ Aside0 (Step (OnlyB blk) (OnlyB blk) w wr) ∧ Aside0 ((row g' n).Perm (row g n))) (fun v6 v7 v8 v9 wr => n - (intOf v6).toNat)
   case atStart => exact ⟨20, g2, rfl, by omega, by omega, rfl, ⟨HBL.out⟩, ⟨HSM2.out⟩, ⟨HO2.out⟩, ⟨S2.out⟩, ⟨P2.out⟩⟩
   case round =>
    obtain ⟨s, g3, hs20, hs0, hs1, rfl, HB, HSM, HO, HS, HP⟩ := hrel
    by_cases c2 : s < n
    ·exact absurd c2 zq4
    ·have bs : decide ((s : Int) < (n : Int)) = false := decide_eq_false zq4
     have HU := Lib.hid (show Up cf g3 0 n by
      have h := HB.out 0 ⟨0, rfl⟩; rw [Nat.min_eq_right zq4] at h; exact h)
     go_wp2
     go_end0
     exact ⟨rfl, g3, HO.out, HU.out, HSM.out, HS.out, HP.out⟩
theorem sort_calls (cf : El → El → Int) (o : Ord cf) (OK : El → Prop) (blk cap n : Nat) (fn : Nat) (hn : n ≤ 20) (hfn : ∀ args w, (callFunc fn args).run Tryz.prog w = .ok (.enter fn args) w) (g : Nat → El) (w : World) (hH : Holds enc 2 w blk 85 n g) (hok : ∀ i, i < n → OK (g i))
  (hcmp : ∀ (x y : El) (w1 : World), OK x → OK y → Step (OnlyB blk) (OnlyB blk) w w1 → Calls Tryz.prog fn #[.agg #[.int .i64 x.at', .int .i64 x.net], .agg #[.int .i64 y.at', .int .i64 y.net]] w1 fun e w' => e = .returned (.int .i64 (cf x y)) ∧ Below w1.heap.size w1 w') :
  Calls Tryz.prog 152 #[.slice (some ⟨blk, 0, none⟩) n cap, .func (.func fn) #[] #[]] w fun e w' => e = .returned (.tuple #[]) ∧ ∃ g', Holds enc 2 w' blk 85 n g' ∧ Up cf g' 0 n ∧ SameOn g g' 0 n ∧ Step (OnlyB blk) (OnlyB blk) w w' ∧ (row g' n).Perm (row g n) := by
 have SC := Lib.hid (stable_calls cf o OK blk cap n fn hn hfn g w hH hok hcmp); clear hH hok hcmp; go_enter Tryz.func152, Tryz.ntmps152
 go_wp2_with ((with_reducible refine SC.out.mono ?_); rintro e w1 ⟨rfl, g2, k1, k2, k3, k4, k5⟩; have HO2 := Lib.hid k1; have U2 := Lib.hid k2; have G2 := Lib.hid k3; have S2 := Lib.hid k4; have P2 := Lib.hid k5; clear k1 k2 k3 k4 k5)
 go_end0
 exact ⟨rfl, g2, HO2.out, U2.out, G2.out, S2.out, P2.out⟩
end Go.Proofs.YtmkgecapkeojaaaGreat.SortJ
end
section
namespace Go.Proofs.YtmkgecapkeojaaaGreat.SortJ
open Go Go.RowKit Go.Proofs.YtmkgecapkeojaaaGreatW.PrintWords Go.Proofs.YtmkgecapkeojaaaGreatW.PrintLast Go.Proofs.YtmkgecapkeojaaaGreatW.PrintMore
theorem insertion_nil (c fn : Nat) (w : World) : Calls Tryz.prog 188 #[.slice none 0 c, .int .i64 0, .int .i64 0, .func (.func fn) #[] #[]] w fun e w' => e = .returned (.tuple #[]) ∧ w' = w := by
 go_enter Tryz.func188, Tryz.ntmps188; go_wp2
 go_loopw [8] (fun v8 wr => v8 = .int .i64 1 ∧ Aside0 (wr = w)) (fun v8 wr => 0)
 case atStart => exact ⟨rfl, ⟨rfl⟩⟩
 case round =>
  obtain ⟨rfl, HW⟩ := hrel; go_wp2
  go_end0
  exact ⟨rfl, HW.out⟩
theorem stable_nil (c fn : Nat) (w : World) : Calls Tryz.prog 169 #[.slice none 0 c, .int .i64 0, .func (.func fn) #[] #[]] w fun e w' => e = .returned (.tuple #[]) ∧ w' = w := by
 go_enter Tryz.func169, Tryz.ntmps169; go_wp2
 go_loopw [7, 8] (fun v7 v8 wr => v7 = .int .i64 0 ∧ v8 = .int .i64 20 ∧ Aside0 (wr = w)) (fun v7 v8 wr => 0)
 case atStart => exact ⟨rfl, rfl, ⟨rfl⟩⟩
 case round =>
  obtain ⟨rfl, rfl, HW⟩ := hrel
  go_wp2_with (go_at_call 188; (with_reducible refine (insertion_nil c fn _).mono ?_); rintro e w1 ⟨rfl, h1⟩; have HW1 := Lib.hid (h1.trans HW.out); clear h1)
  go_loopw [6] (fun v6 wr => v6 = .int .i64 20 ∧ Aside0 (wr = w)) (fun v6 wr => 0)
  case atStart => exact ⟨rfl, ⟨HW1.out⟩⟩
  case round =>
   obtain ⟨rfl, HW2⟩ := hrel; go_wp2
   go_end0
   exact ⟨rfl, HW2.out⟩
theorem sort_nil (c fn : Nat) (w : World) : Calls Tryz.prog 152 #[.slice none 0 c, .func (.func fn) #[] #[]] w fun e w' => e = .returned (.tuple #[]) ∧ w' = w := by
 go_enter Tryz.func152, Tryz.ntmps152
 go_wp2_with (go_at_call 169; (with_reducible refine (stable_nil c fn _).mono ?_); rintro e w1 ⟨rfl, rfl⟩)
 go_end0
 exact ⟨rfl, rfl⟩
end Go.Proofs.YtmkgecapkeojaaaGreat.SortJ
end
section
namespace Go.Proofs.YtmkgecapkeojaaaGreat.Stp
open Go.Proofs.YtmkgecapkeojaaaGreat Go.Proofs.YtmkgecapkeojaaaGreat.PDa
open Go.RowKit Go.Proofs.YtmkgecapkeojaaaGreatW.PrintWords Go.Proofs.YtmkgecapkeojaaaGreatW.PrintLast Go.Proofs.YtmkgecapkeojaaaGreatW.PrintMore
open Go.Proofs.YtmkgecapkeojaaaGreat.SortP Go.Proofs.YtmkgecapkeojaaaGreat.SortM
abbrev Jp := S85
abbrev kJ := k85
def emit (at' s : Int) : List Jp := if s ≠ 0 ∧ at' < 1125899906842624 then [⟨at', s⟩] else []
def grpAt (at' s : Int) : List Jp → List Jp
 | [] => emit at' s
 | y :: ys => if y.f0 = at' then grpAt at' (s + y.f1) ys else emit at' s ++ grpAt y.f0 y.f1 ys
def grp : List Jp → List Jp
 | [] => []
 | x :: xs => grpAt x.f0 x.f1 xs
def cellsJ (l : List Jp) : List Value := l.flatMap fun x => [.int .i64 x.f0, .int .i64 x.f1]
theorem cellsJ_len (l : List Jp) : (cellsJ l).length = l.length * 2 := by
 induction l with
 | nil => rfl
 | cons x xs ih => simp only [cellsJ, List.flatMap_cons, List.length_append, List.length_cons, List.length_nil] at ih ⊢; omega
theorem cellsJ_at : ∀ (l : List Jp) (j : Nat) (p : Jp), l[j]? = some p → ((cellsJ l).drop (j * 2)).take 2 = [.int .i64 p.f0, .int .i64 p.f1]
 | [], j, p, h => by simp at h
 | x :: xs, 0, p, h => by
  have : x = p := by simpa using h
  subst this; simp [cellsJ]
 | x :: xs, j + 1, p, h => by
  have := cellsJ_at xs j p (by simpa using h); rw [show (j + 1) * 2 = 2 + j * 2 by omega, ← List.drop_drop]
  simpa [cellsJ] using this
theorem R_of_cells {W : World} {base : Nat} {v : Value} {xs : List Jp} (h : W.ownsRow base 85 2 v xs.length (cellsJ xs)) : Kd.R kJ 85 W base (fun _ => True) v xs :=
 ⟨fun _ _ => trivial, cellsJ xs, h, cellsJ_len xs, fun j p hp => by
  show k85.M W base _ p (((cellsJ xs).drop (j * 2)).take 2)
  rw [cellsJ_at xs j p hp]; exact k85_mkM _ _ _ _⟩
def elJ (x : Jp) : SortJ.El := ⟨x.f0, x.f1⟩
def jpE (x : SortJ.El) : Jp := ⟨x.at', x.net⟩
theorem holds_of_R {W : World} {base : Nat} {ok : Nat → Prop} {v : Value} {xs : List Jp} (h : Kd.R kJ 85 W base ok v xs) (hn : 0 < xs.length) :
  ∃ g cap, v = .slice (some ⟨g, 0, none⟩) xs.length cap ∧ base ≤ g ∧ Holds SortJ.enc 2 W g 85 xs.length (fun i => elJ (xs.getD i z85)) := by
 obtain ⟨_, inner, ho, hr⟩ := h
 rcases ho.2 with ⟨_, h0⟩ | ⟨g, cap, cur, rfl, hg, hh, h1, h2, h3, h4⟩
 ·omega
 ·refine ⟨g, cap, rfl, hg, cur, hh, ?_, fun i j u hi hu => ?_⟩
  ·rw [h3]; exact Nat.mul_le_mul_right 2 h1
  ·have hx : xs[i]? = some (xs.getD i z85) := by rw [List.getD_eq_getElem?_getD, List.getElem?_eq_getElem hi]; rfl
   have e := k85_openM (hr.2 i _ hx); have hj : j < 2 := (List.getElem?_eq_some_iff.1 hu).1; have e2 : inner[i * 2 + j]? = some u := by
    have e3 : ((inner.drop (i * 2)).take 2)[j]? = some u := by rw [show kJ.sz = 2 from rfl] at e; rw [e]; exact hu
    rw [List.getElem?_take_of_lt hj, List.getElem?_drop] at e3; exact e3
   rw [← h4] at e2; rw [List.getElem?_take_of_lt (by have := (List.getElem?_eq_some_iff.1 e2).1; simp at this; omega), Array.getElem?_toList] at e2; exact e2
def mayL (last : Int) : List Jp → Bool
 | [] => true
 | x :: xs => decide (last < x.f0) && decide (x.f0 < 1125899906842624) && decide (x.f1 ≠ 0) && fairB x.f1 && mayL x.f0 xs
def mayJ (l : List Jp) : Bool := decide (l.length ≤ 1024) && mayL (-2) l
theorem may_l0 (l : List Jp) (hl : l.length ≤ 1024) : ∀ (m i k : Nat) (last : Int), l.length - i = m → i ≤ l.length → m < k → step_May.l0 k last l (l.length : Int) (i : Int) = some (mayL last (l.drop i))
 | m, i, 0, last, hm, hi, hk => by omega
 | m, i, k + 1, last, hm, hi, hk => by
  unfold step_May.l0
  by_cases h : i < l.length
  ·have hrd : rd_T85 l (i : Int) = l[i] := by
    unfold rd_T85; simp [h]
   rw [if_pos zq4, if_pos zq4, if_pos zq4, hrd, fair_f, List.drop_eq_getElem_cons h]; have hw : wrap64 ((i : Int) + 1) = ((i + 1 : Nat) : Int) := by unfold wrap64; omega
   rw [hw, Option.bind_some, may_l0 l hl (m - 1) (i + 1) k _ zq4 zq4 zq4]; generalize l[i] = x; rw [mayL]
   by_cases h1 : x.f0 ≤ last
   ·rw [if_pos h1]; simp [show ¬ last < x.f0 by omega]
   ·rw [if_neg h1]
    by_cases h2 : x.f0 ≥ 1125899906842624
    ·rw [if_pos h2]; simp [show ¬ x.f0 < 1125899906842624 by omega]
    ·rw [if_neg h2]
     by_cases h3 : x.f1 = 0
     ·rw [if_pos h3]; simp [h3]
     ·rw [if_neg h3]
      by_cases h4 : fairB x.f1 = true
      ·rw [if_pos h4]; simp [h3, h4, show last < x.f0 by omega, show x.f0 < 1125899906842624 by omega]
      ·rw [if_neg h4]; simp [h3, show fairB x.f1 = false by simpa using h4]
  ·rw [if_neg zq4, List.drop_eq_nil_of_le zq4]
   rfl
theorem may_f (l : List Jp) : step_May.f (l.length + 1) l = some (mayJ l) := by
 unfold step_May.f mayJ
 by_cases h : l.length ≤ 1024
 ·have e := may_l0 l h l.length 0 (l.length + 1) (-2) zq4 zq4 zq4
  rw [if_neg zq4]
  simpa [h] using e
 ·rw [if_pos zq4]
  simp [h]
def toldJ (l : List Jp) : List Jp × Int := if mayJ l = true then (l, 0) else ([], 7)
theorem told_f (l : List Jp) : step_told.f (l.length + 1) l = some ((toldJ l).1, (toldJ l).2) := by
 unfold step_told.f toldJ; rw [may_f, Option.bind_some]
 split <;> rfl
end Go.Proofs.YtmkgecapkeojaaaGreat.Stp
end
section
namespace Go.Proofs.YtmkgecapkeojaaaGreat.Run
open Go Go.RowKit
def OwnS (B : Nat) (v : Value) : Nat → Prop := fun b => b = B ∨ v.ownBlock = some b
theorem own_lt' {W : World} {n₀ e size k : Nat} {v : Value} {xs : List Value} (h : W.ownsRow n₀ e size v k xs) {b : Nat} (hb : v.ownBlock = some b) : n₀ ≤ b ∧ b < W.heap.size := by
 rcases h.2 with ⟨rfl, _⟩ | ⟨g, cap, cur, rfl, hg, hh, _⟩
 ·simp [Value.ownBlock] at hb
 ·have : g = b := by simpa [Value.ownBlock] using hb
  subst this; exact ⟨hg, (Array.getElem?_eq_some_iff.1 hh).1⟩
theorem own_slice {W : World} {n₀ e size k : Nat} {v : Value} {xs : List Value} (h : W.ownsRow n₀ e size v k xs) : ∃ A c, v = .slice A k c := by
 rcases h.2 with ⟨rfl, hk⟩ | ⟨g, cap, cur, rfl, _⟩
 ·exact ⟨none, 0, by rw [hk]⟩
 ·exact ⟨_, _, rfl⟩
theorem Grow.boxed (B0 Bx : Nat) (t : TypeId) (v : Value) : Grow B0 (fun W => Boxed W Bx t v) := by
 refine ⟨fun {W W'} h hb => (hb.block Bx h.lt).trans h, fun {W l o} o' h hl ho hc => (World.putObj_heap_other (fun e => ?_)).trans h⟩; subst e; have h' : W.heap[Bx]? = some (.cells #[v] t (0, 0)) := h; rw [h'] at ho; cases ho; cases hc
theorem Grow.blk (B0 Bx : Nat) (cs : Array Value) (t : TypeId) (o2 : Nat × Nat) : Grow B0 (fun W => W.heap[Bx]? = some (.cells cs t o2)) := by
 refine ⟨fun {W W'} h hb => (hb.block Bx (Array.getElem?_eq_some_iff.1 h).1).trans h, fun {W l o} o' h hl ho hc => (World.putObj_heap_other (fun e => ?_)).trans h⟩; subst e; rw [h] at ho; cases ho; cases hc
end Go.Proofs.YtmkgecapkeojaaaGreat.Run
end
section
namespace Go.Proofs.YtmkgecapkeojaaaGreat.Stp
open Go.Proofs.YtmkgecapkeojaaaGreat Go.Proofs.YtmkgecapkeojaaaGreat.PDa
open Go.RowKit Go.Proofs.YtmkgecapkeojaaaGreatW.PrintWords Go.Proofs.YtmkgecapkeojaaaGreatW.PrintLast Go.Proofs.YtmkgecapkeojaaaGreatW.PrintMore
open Go.Proofs.YtmkgecapkeojaaaGreat.SortP Go.Proofs.YtmkgecapkeojaaaGreat.SortM Go.Proofs.YtmkgecapkeojaaaGreat.Run
theorem infoJump : (Tryz.prog.info? 85).map (fun i => (i.zero, i.size, i.bytes)) = some (some (.agg #[.int .i64 0, .int .i64 0]), 2, 16) := by kernel_rfl
def rowJ (g : Nat → SortJ.El) (n : Nat) : List Jp := (row g n).map jpE
theorem rowJ_len (g : Nat → SortJ.El) (n : Nat) : (rowJ g n).length = n := by simp [rowJ, row_len]
theorem rowJ_drop (g : Nat → SortJ.El) (n i : Nat) (h : i < n) : (rowJ g n).drop i = jpE (g i) :: (rowJ g n).drop (i + 1) := by
 rw [List.drop_eq_getElem_cons (by rw [rowJ_len]; exact h)]
 congr 1
 simp [rowJ, row]
theorem icmp_ord : Ord (fun x y : SortJ.El => Cmp.icmp x.at' y.at') := by
 refine ⟨fun x y h => ?_, fun x y z h1 h2 => ?_⟩
 ·have := (Cmp.icmp_is.anti x.at' y.at').1 h
  show ¬ Cmp.icmp y.at' x.at' < 0
  omega
 ·exact Cmp.icmp_is.not_lt.2 (Cmp.icmp_is.le_trans (Cmp.icmp_is.not_lt.1 h1) (Cmp.icmp_is.not_lt.1 h2))
theorem rowJ_of (l : List Jp) : rowJ (fun i => elJ (l.getD i z85)) l.length = l := by
 refine List.ext_getElem (rowJ_len _ _) fun i h1 h2 => ?_
 simp [rowJ, row, List.getElem?_eq_getElem h2, jpE, elJ]
theorem rowJ_perm {g g' : Nat → SortJ.El} {n : Nat} (h : (row g n).Perm (row g' n)) : (rowJ g n).Perm (rowJ g' n) := h.map jpE
theorem fair_of {l : List Jp} (hf : l.any (fun x => !fairB x.f1) = false) (x : Jp) (hx : x ∈ l) : -1048576 ≤ x.f1 ∧ x.f1 ≤ 1048576 := by
 have := List.any_eq_false.1 hf x hx; simp [fairB] at this; omega
theorem grp_of_drop (g : Nat → SortJ.El) (n i : Nat) (h : i < n) : grp ((rowJ g n).drop i) = grpAt (g i).at' 0 ((rowJ g n).drop i) := by
 rw [rowJ_drop g n i h]
 show grpAt (jpE (g i)).f0 (jpE (g i)).f1 _ = grpAt (g i).at' 0 (jpE (g i) :: _)
 show _ = (if (jpE (g i)).f0 = (g i).at' then grpAt (g i).at' (0 + (jpE (g i)).f1) _ else _)
 rw [if_pos (show (jpE (g i)).f0 = (g i).at' from rfl), Int.zero_add]
 rfl
theorem grpAt_step (g : Nat → SortJ.El) (n i : Nat) (h : i < n) (a s : Int) (ha : (g i).at' = a) : grpAt a s ((rowJ g n).drop i) = grpAt a (s + (g i).net) ((rowJ g n).drop (i + 1)) := by
 rw [rowJ_drop g n i h, grpAt, if_pos (show (jpE (g i)).f0 = a from ha)]
 rfl
theorem grpAt_end (g : Nat → SortJ.El) (n i : Nat) (hi : i ≤ n) (a s : Int) (ha : i < n → (g i).at' ≠ a) : grpAt a s ((rowJ g n).drop i) = emit a s ++ grp ((rowJ g n).drop i) := by
 by_cases h : i < n
 ·rw [rowJ_drop g n i h, grpAt, if_neg (show ¬ (jpE (g i)).f0 = a from ha h)]
  rfl
 ·rw [List.drop_eq_nil_of_le (by rw [rowJ_len]; omega)]
  simp [grpAt, grp]
theorem own_keep {W W' : World} {base e size k B : Nat} {v : Value} {xs : List Value} {S' : Nat → Prop} (h : W.ownsRow base e size v k xs) (hs : Step (OnlyB B) S' W W') (hB : v.ownBlock ≠ some B) : W'.ownsRow base e size v k xs := by
 refine ⟨h.1, ?_⟩
 rcases h.2 with h2 | ⟨g, cap, cur, rfl, hg, hh, r⟩
 ·exact .inl h2
 ·exact .inr ⟨g, cap, cur, rfl, hg, (hs.keep g (blk_lt hh) (fun e => hB (congrArg some (show g = B from e)))).trans hh, r⟩
theorem own_step {W w1 : World} {v v' : Value} {tmp : Obj} (hgrow : (W.alloc tmp).grownBy w1 v.ownBlock) (hat : v'.ownBlock = v.ownBlock ∨ v'.ownBlock = some (W.alloc tmp).heap.size) :
  Step (fun b => v.ownBlock = some b) (fun b => v'.ownBlock = some b) W w1 := by
 refine ⟨hgrow.os, hgrow.tape, hgrow.output, by have := hgrow.size; rw [World.size_alloc] at this; omega, fun b hb hS => ?_, fun b hb => ?_⟩
 ·exact (hgrow.block b (by rw [World.size_alloc]; omega) (fun h => hS h.symm)).trans (Below.heap_alloc W tmp b hb)
 ·rcases hat with h | h
  ·exact .inl (h ▸ hb)
  ·rw [h] at hb
   have := Option.some.inj hb; rw [World.size_alloc] at this; exact .inr zq4
theorem own_base {W : World} {base b e size k : Nat} {v : Value} {xs : List Value} (h : W.ownsRow b e size v k xs) (hb : base ≤ b) : W.ownsRow base e size v k xs := by
 refine ⟨h.1, ?_⟩
 rcases h.2 with h2 | ⟨g, cap, cur, rfl, hg, r⟩
 ·exact .inl h2
 ·exact .inr ⟨g, cap, cur, rfl, Nat.le_trans hb hg, r⟩
theorem norm_tail (A0 : Option Addr) (c0 : Nat) (l : List Jp) (w : World) (hr0 : Kd.C kJ w A0 l.length l) (hc0 : l.length ≤ c0) (hl : l.length ≤ 20) (hn0 : 0 < l.length) (hf : l.any (fun x => !fairB x.f1) = false) (ht : l.any (fun x => timeB x.f0) = false) :
  Calls Tryz.prog 109 #[.slice A0 l.length c0] w fun e w' => ∃ (g : Nat → SortJ.El) (v : Value), Up (fun x y => Cmp.icmp x.at' y.at') g 0 l.length ∧ (rowJ g l.length).Perm l ∧
   e = .returned (.tuple #[v, .int .i64 (toldJ (grp (rowJ g l.length))).2]) ∧ Kd.R kJ 85 w' w.heap.size (fun _ => True) v (toldJ (grp (rowJ g l.length))).1 ∧ Below w.heap.size w w' := by
 have HR := Lib.hid hr0; have HL := Lib.hid hl; have F1 := Lib.hid (fun (w1 : World) (hb : Below w.heap.size w w1) => has_jump (fun x => !fairB x.f1) 150 A0 c0 l w1 (fun x w2 _ _ => norm1_calls x w2) (Go.Proofs.enters_of Tryz.func150 zq17 rfl) (Kd.C_below HR.out hb) zq4); have F2 := Lib.hid (fun (w1 : World) (hb : Below w.heap.size w w1) => has_jump (fun x => timeB x.f0) 151 A0 c0 l w1 (fun x w2 _ _ => norm2_calls x w2) (Go.Proofs.enters_of Tryz.func151 zq17 rfl) (Kd.C_below HR.out hb) zq4); have F3 := Lib.hid (fun (w1 : World) (hb : Below w.heap.size w w1) => clone_Jump.calls A0 c0 l l w1 (Kd.C_below HR.out hb) hc0 (if_pos zq4)); rw [hf] at F1; rw [ht] at F2; have HF := Lib.hid hf; have ORD := Lib.hid (fun (blk cap : Nat) (w3 : World) (g0 : Nat → SortJ.El) (h : Holds SortJ.enc 2 w3 blk 85 l.length g0) => SortJ.sort_calls (fun x y => Cmp.icmp x.at' y.at') icmp_ord (fun _ => True) blk cap l.length 153 zq4 (Go.Proofs.enters_of Tryz.func153 zq17 rfl) g0 w3 h (fun _ _ => trivial) (fun x y w9 _ _ _ => norm3_calls ⟨x.at', x.net⟩ ⟨y.at', y.net⟩ w9)); have HN0 := Lib.hid hn0; have hn0' : (0 : Int) < (l.length : Int) := by omega
 have hu := Tryz.underlying85; clear hr0 hc0 hl hf ht hn0; go_enter Tryz.func109, Tryz.ntmps109
 go_wp2_with (first
  | (with_reducible refine (F1.out _ (Below.refl _ _)).mono ?_; rintro e w1 ⟨rfl, hb1⟩; have HB1 := Lib.hid hb1; clear hb1)
  | (with_reducible refine (F2.out _ HB1.out).mono ?_; rintro e w2 ⟨rfl, hb2⟩; have HB2 := Lib.hid (HB1.out.trans (hb2.mono HB1.out.size)); clear hb2)
  | (go_at_call 114; (with_reducible refine (F3.out _ HB2.out).mono ?_); rintro e w3 ⟨v4, rfl, hR, hb3⟩; have HB3 := Lib.hid (HB2.out.trans (hb3.mono HB2.out.size)); obtain ⟨blk, cap, rfl, hbk, hH⟩ := holds_of_R hR HN0.out; have HBK := Lib.hid (Nat.le_trans HB2.out.size hbk); have HH := Lib.hid hH; have SC := Lib.hid (ORD.out blk cap w3 _ hH); clear hb3 hR hbk hH)
  | (go_at_call 152; (with_reducible refine SC.out.mono ?_); rintro e w4 ⟨rfl, g, k1, k2, k3, k4, k5⟩; have HO := Lib.hid k1; have HU := Lib.hid k2; have HSM := Lib.hid k3; have HS := Lib.hid k4; have HP := Lib.hid k5; clear k1 k2 k3 k4 k5))
 have hu43 : Tryz.prog.underlying 43 = some (.slice 85) := by kernel_rfl
 obtain ⟨i0, hi0, hz0, hz1, hz2⟩ := info_parts infoJump; have HPJ := Lib.hid (show (rowJ g l.length).Perm l by have := rowJ_perm HP.out; rwa [rowJ_of] at this); have HNET := Lib.hid (show ∀ i, i < l.length → -1048576 ≤ (g i).net ∧ (g i).net ≤ 1048576 by
  intro i hi; refine fair_of HF.out (jpE (g i)) (HPJ.out.mem_iff.1 ?_); exact List.mem_map_of_mem (by simp only [row]; exact List.mem_map.2 ⟨i, List.mem_range.2 hi, rfl⟩))
 clear HP HSM; have HB4 := Lib.hid (HB3.out.trans ((HS.out.below (n := w.heap.size) HB3.out.size (fun b hb => by rw [show b = blk from hb]; exact HBK.out)).mono (Nat.le_refl _)))
 go_loopw [5, 6] (fun v5 v6 wr => ∃ (i : Nat) (pre : List Jp) (A : Option Addr) (c : Nat), i ≤ l.length ∧ v6 = .int .i64 (i : Int) ∧ v5 = .slice A pre.length c ∧ Aside0 (pre.length ≤ i) ∧ Aside0 (grp (rowJ g l.length) = pre ++ grp ((rowJ g l.length).drop i)) ∧ Aside0 (wr.ownsRow w4.heap.size 85 2 (.slice A pre.length c) pre.length (cellsJ pre)) ∧ Aside0 (Below w4.heap.size w4 wr)) (fun v5 v6 wr => l.length - (intOf v6).toNat)
 case atStart =>
  refine ⟨0, [], some ⟨w4.heap.size, 0, none⟩, 0, by omega, rfl, rfl, ⟨Nat.le_refl _⟩, ⟨by simp⟩, ⟨⟨rfl, .inr ⟨w4.heap.size, 0, #[], rfl, Nat.le_refl _, ?_, Nat.le_refl _, Nat.zero_le _, rfl, rfl⟩⟩⟩, ⟨below_alloc (Below.refl _ w4) _⟩⟩; exact blk_new w4 _
 case round =>
  obtain ⟨i, pre, A, c, hi, rfl, rfl, HPL, HE, HO5, HBr⟩ := hrel; obtain ⟨wo, hwo⟩ : ∃ x, x = wr := ⟨_, rfl⟩
  subst hwo; have hl9 := HL.out
  by_cases hlt : i < l.length
  ·have HR4 := Lib.hid (HO.out.below HBr.out)
   have x0 : wo.cell? ⟨blk, i * 2, none⟩ = some (.int .i64 (g i).at') := HR4.out.cell (i := i) (j := 0) (u := .int .i64 (g i).at') hlt rfl; have HAT := Lib.hid (grp_of_drop g l.length i hlt); obtain ⟨at', hat⟩ : ∃ at', (g i).at' = at' := ⟨_, rfl⟩
   rw [hat] at x0 HAT; have HEA := Lib.hid hat; clear hat; go_wp2
   go_loopw [6] (fun v6 wr => ∃ (j : Nat) (s : Int), i ≤ j ∧ j ≤ l.length ∧ v6 = .int .i64 (j : Int) ∧ Aside0 (-((j : Int) * 1048576) ≤ s ∧ s ≤ (j : Int) * 1048576) ∧ Aside0 (grp (rowJ g l.length) = pre ++ grpAt at' s ((rowJ g l.length).drop j)) ∧ Aside0 (wr.heap[wo.heap.size]? = some (.cells #[.int .i64 at', .int .i64 s] 85 (0, 0))) ∧ Aside0 (Step (OnlyB wo.heap.size) (OnlyB wo.heap.size) (wo.alloc (.cells #[.int .i64 at', .int .i64 0] 85 (0, 0))) wr)) (fun v6 wr => l.length - (intOf v6).toNat)
   case atStart =>
    exact ⟨i, 0, Nat.le_refl _, hi, rfl, ⟨by omega, by omega⟩, ⟨by rw [HE.out, HAT.out]⟩, ⟨blk_new wo _⟩, ⟨Step.refl _ _⟩⟩
   case round =>
    obtain ⟨j, s, hij, hj, rfl, HS1, HE1, HX, HST⟩ := hrel; have HB5 := Lib.hid (show Below w4.heap.size w4 wr from (below_alloc HBr.out _).trans (HST.out.below (by rw [World.size_alloc]; have := HBr.out.size; omega) (fun b hb => by rw [show b = wo.heap.size from hb]; exact HBr.out.size))); have HRT := Lib.hid (HO.out.below HB5.out); have b0 : wr.cell? ⟨wo.heap.size, 0, none⟩ = some (.int .i64 at') := (blk_cell HX.out 0).trans rfl; have b1 : wr.cell? ⟨wo.heap.size, 1, none⟩ = some (.int .i64 s) := (blk_cell HX.out 1).trans rfl
    by_cases hjl : j < l.length
    ·have y0 : wr.cell? ⟨blk, j * 2, none⟩ = some (.int .i64 (g j).at') := HRT.out.cell (i := j) (j := 0) (u := .int .i64 (g j).at') hjl rfl
     have y1 : wr.cell? ⟨blk, j * 2 + 1, none⟩ = some (.int .i64 (g j).net) := HRT.out.cell (i := j) (j := 1) (u := .int .i64 (g j).net) hjl rfl
     by_cases hat2 : (g j).at' = at'
     ·have HSTEP := Lib.hid (grpAt_step g l.length j hjl at' s hat2)
      have HN := Lib.hid (HNET.out j hjl); obtain ⟨nt, hnt⟩ : ∃ nt, (g j).net = nt := ⟨_, rfl⟩
      rw [hat2] at y0; rw [hnt] at y1 HSTEP HN; have x0' := fun p => BelowOf.cell b0 p
      have y0' := fun p => BelowOf.cell y0 p
      clear hat2 hnt; go_wp2; refine wp_region_quiet_below zq17 zq17 ?_
      repeat (go_big_quiet_step (exact below_calls (CM.out _)))
      refine wpQuiet_nil ?_; intro wq hw1; have HWQ := Lib.hid (show Below wr.heap.size wr wq by obtain ⟨p, rfl⟩ := hw1; exact p.h); clear hw1; clear x0' y0'; have b1' := pw_cell_below HWQ.out b1; have y1' := pw_cell_below HWQ.out y1; have q1 : IntKind.i64.wrap (s + nt) = s + nt := by have := HS1.out; have := HN.out; rw [IntKind.wrap_i64]; omega
      clear x0 b0 b1 y0 y1; go_wp2; have HXQ := Lib.hid (blk_below HX.out HWQ.out); have HSQ := Lib.hid (HST.out.trans (step_below HWQ.out)); have fz := blk_frozen HXQ.out 1
      go_region
      go_wp2; go_roundw
      case rel =>
       refine ⟨j + 1, s + nt, by omega, by omega, by go_num, ⟨?_⟩, ⟨by rw [HE1.out, HSTEP.out]⟩, ⟨(blk_set HXQ.out 1 _).trans rfl⟩, ⟨HSQ.out.trans (step_drew _ (step_set _ _ _ _))⟩⟩; have := HS1.out; have := HN.out; omega
      case measure => simp [intOf]; omega
     ·have HEND := Lib.hid (grpAt_end g l.length j hj at' s (fun _ => hat2))
      have HIJ := Lib.hid (Nat.lt_of_le_of_ne hij (fun h => hat2 (h ▸ HEA.out))); obtain ⟨Y, hY⟩ : ∃ Y, (g j).at' = Y := ⟨_, rfl⟩
      rw [hY] at y0 hat2; have bY : (Y == at') = false := beq_eq_false_iff_ne.2 hat2; have x0' := fun p => BelowOf.cell b0 p
      have y0' := fun p => BelowOf.cell y0 p
      clear hY; go_wp2; refine wp_region_quiet_below zq17 zq17 ?_
      repeat (go_big_quiet_step (exact below_calls (CM.out _)))
      refine wpQuiet_nil ?_; intro wq hw1; have HWQ := Lib.hid (show Below wr.heap.size wr wq by obtain ⟨p, rfl⟩ := hw1; exact p.h); clear hw1; clear x0' y0' y0 y1 bY hat2; have b0' := pw_cell_below HWQ.out b0; have b1' := pw_cell_below HWQ.out b1; clear b0 b1; have b0 := b0'; have b1 := b1'; clear b0' b1'
      by_cases hs0 : s ≠ 0
      ·by_cases hF : at' < 1125899906842624
       ·have HEM := Lib.hid (show emit at' s = [⟨at', s⟩] by unfold emit; rw [if_pos ⟨hs0, hF⟩])
        have HSZ := Lib.hid (HST.out.trans (step_below HWQ.out)); have HXZ := Lib.hid (blk_below HX.out HWQ.out); have HBZ := Lib.hid (show Below w4.heap.size w4 wq from HB5.out.trans (HWQ.out.mono HB5.out.size)); have HOZ := Lib.hid (own_keep (HO5.out.alloc _) HSZ.out (fun e => Nat.lt_irrefl _ (own_lt' HO5.out e).2)); have HO3 := Lib.hid (HOZ.out.alloc (.cells #[.int .i64 at', .int .i64 s] 85 (0, 0)))
        go_wp2_with (at_builtin; (refine wpList_append_own_at _ rfl _ _ _ rfl w4.heap.size 85 i0 _ 2 16 hu43 hi0 hz0 hz1 hz2 rfl zq4 _ pre.length (cellsJ pre) rfl HO3.out ⟨wq.heap.size, 0, none⟩ 1 1 [.int .i64 at', .int .i64 s] rfl rfl ?hc ?h1c ?b1 ?b2 ?b3 ?_))
        case hc =>
         intro j1 u hju
         match j1 with
         | 0 => cases hju; exact (blk_cell (blk_new wq _) 0).trans rfl
         | 1 => cases hju; exact (blk_cell (blk_new wq _) 1).trans rfl
         | j1 + 2 => cases hju
        case h1c =>
         intro u hu
         rcases List.mem_cons.1 hu with rfl | hu
         ·rfl
         ·rcases List.mem_cons.1 hu with rfl | hu
          ·rfl
          ·cases hu
        case b1 => have := HPL.out; unfold maxLen; omega
        case b2 => have := HPL.out; omega
        case b3 => have := HBZ.out.size; rw [World.size_alloc]; omega
        intro v' w1 hown' hgrow _ hat; obtain ⟨g1, cap1, rfl⟩ := ownsRow_succ hown'; have HS1 := Lib.hid (own_step hgrow (by rw [World.size_alloc]; exact hat)); have HO1 := Lib.hid hown'; have HB1 := Lib.hid (HBZ.out.trans (HS1.out.below HBZ.out.size (fun b hb => (own_lt' HOZ.out hb).1))); have hcl : cellsJ pre ++ [.int .i64 at', .int .i64 s] = cellsJ (pre ++ [⟨at', s⟩]) := by simp [cellsJ]
        rw [hcl] at HO1; clear hown' hgrow hat hcl; go_wp2; go_roundw
        case rel => first | exact ⟨j, pre ++ [⟨at', s⟩], some ⟨g1, 0, none⟩, cap1, hj, rfl, by simp, ⟨by have := HPL.out; have := HIJ.out; simp; omega⟩, ⟨by rw [HE1.out, HEND.out, HEM.out]; simp⟩, ⟨by rw [List.length_append]; exact HO1.out⟩, ⟨HB1.out⟩⟩ | trace_state
        case measure => have := HIJ.out; simp [intOf]; omega
       ·have HEM := Lib.hid (show emit at' s = [] by unfold emit; rw [if_neg (fun h => by first | exact hs0 h.1 | exact hF h.2)])
        have HSZ := Lib.hid (HST.out.trans (step_below HWQ.out)); have HXZ := Lib.hid (blk_below HX.out HWQ.out); have HBZ := Lib.hid (show Below w4.heap.size w4 wq from HB5.out.trans (HWQ.out.mono HB5.out.size)); have HOZ := Lib.hid (own_keep (HO5.out.alloc _) HSZ.out (fun e => Nat.lt_irrefl _ (own_lt' HO5.out e).2)); go_wp2; go_roundw
        case rel => first | exact ⟨j, pre, A, c, hj, rfl, rfl, ⟨by have := HPL.out; omega⟩, ⟨by rw [HE1.out, HEND.out, HEM.out]; rfl⟩, ⟨HOZ.out⟩, ⟨HBZ.out⟩⟩ | exact ⟨j, hj, rfl, pre, A, c, ⟨rfl, rfl, rfl⟩, ⟨by have := HPL.out; omega⟩, ⟨by rw [HE1.out, HEND.out, HEM.out]; rfl⟩, ⟨HOZ.out⟩, ⟨HBZ.out⟩⟩
        case measure => have := HIJ.out; simp [intOf]; omega
      ·have hF := hs0
       have HEM := Lib.hid (show emit at' s = [] by unfold emit; rw [if_neg (fun h => by first | exact hs0 h.1 | exact hF h.2)]); have HSZ := Lib.hid (HST.out.trans (step_below HWQ.out)); have HXZ := Lib.hid (blk_below HX.out HWQ.out); have HBZ := Lib.hid (show Below w4.heap.size w4 wq from HB5.out.trans (HWQ.out.mono HB5.out.size)); have HOZ := Lib.hid (own_keep (HO5.out.alloc _) HSZ.out (fun e => Nat.lt_irrefl _ (own_lt' HO5.out e).2)); go_wp2; go_roundw
       case rel => first | exact ⟨j, pre, A, c, hj, rfl, rfl, ⟨by have := HPL.out; omega⟩, ⟨by rw [HE1.out, HEND.out, HEM.out]; rfl⟩, ⟨HOZ.out⟩, ⟨HBZ.out⟩⟩ | exact ⟨j, hj, rfl, pre, A, c, ⟨rfl, rfl, rfl⟩, ⟨by have := HPL.out; omega⟩, ⟨by rw [HE1.out, HEND.out, HEM.out]; rfl⟩, ⟨HOZ.out⟩, ⟨HBZ.out⟩⟩
       case measure => have := HIJ.out; simp [intOf]; omega
    ·obtain rfl : j = l.length := by omega
     have HEND := Lib.hid (grpAt_end g l.length l.length hj at' s (fun h => absurd h (Nat.lt_irrefl _))); have HIJ := Lib.hid (show i < l.length from hlt); go_wp2; refine wp_region_quiet_below zq17 zq17 ?_
     repeat (go_big_quiet_step (exact below_calls (CM.out _)))
     refine wpQuiet_nil ?_; intro wq hw1; have HWQ := Lib.hid (show Below wr.heap.size wr wq by obtain ⟨p, rfl⟩ := hw1; exact p.h); clear hw1; have b0' := pw_cell_below HWQ.out b0; have b1' := pw_cell_below HWQ.out b1; clear b0 b1; have b0 := b0'; have b1 := b1'; clear b0' b1'
     by_cases hs0 : s ≠ 0
     ·by_cases hF : at' < 1125899906842624
      ·have HEM := Lib.hid (show emit at' s = [⟨at', s⟩] by unfold emit; rw [if_pos ⟨hs0, hF⟩])
       have HSZ := Lib.hid (HST.out.trans (step_below HWQ.out)); have HXZ := Lib.hid (blk_below HX.out HWQ.out); have HBZ := Lib.hid (show Below w4.heap.size w4 wq from HB5.out.trans (HWQ.out.mono HB5.out.size)); have HOZ := Lib.hid (own_keep (HO5.out.alloc _) HSZ.out (fun e => Nat.lt_irrefl _ (own_lt' HO5.out e).2)); have HO3 := Lib.hid (HOZ.out.alloc (.cells #[.int .i64 at', .int .i64 s] 85 (0, 0)))
       go_wp2_with (at_builtin; (refine wpList_append_own_at _ rfl _ _ _ rfl w4.heap.size 85 i0 _ 2 16 hu43 hi0 hz0 hz1 hz2 rfl zq4 _ pre.length (cellsJ pre) rfl HO3.out ⟨wq.heap.size, 0, none⟩ 1 1 [.int .i64 at', .int .i64 s] rfl rfl ?hc ?h1c ?b1 ?b2 ?b3 ?_))
       case hc =>
        intro j1 u hju
        match j1 with
        | 0 => cases hju; exact (blk_cell (blk_new wq _) 0).trans rfl
        | 1 => cases hju; exact (blk_cell (blk_new wq _) 1).trans rfl
        | j1 + 2 => cases hju
       case h1c =>
        intro u hu
        rcases List.mem_cons.1 hu with rfl | hu
        ·rfl
        ·rcases List.mem_cons.1 hu with rfl | hu
         ·rfl
         ·cases hu
       case b1 => have := HPL.out; unfold maxLen; omega
       case b2 => have := HPL.out; omega
       case b3 => have := HBZ.out.size; rw [World.size_alloc]; omega
       intro v' w1 hown' hgrow _ hat; obtain ⟨g1, cap1, rfl⟩ := ownsRow_succ hown'; have HS1 := Lib.hid (own_step hgrow (by rw [World.size_alloc]; exact hat)); have HO1 := Lib.hid hown'; have HB1 := Lib.hid (HBZ.out.trans (HS1.out.below HBZ.out.size (fun b hb => (own_lt' HOZ.out hb).1))); have hcl : cellsJ pre ++ [.int .i64 at', .int .i64 s] = cellsJ (pre ++ [⟨at', s⟩]) := by simp [cellsJ]
       rw [hcl] at HO1; clear hown' hgrow hat hcl; go_wp2; go_roundw
       case rel => first | exact ⟨l.length, pre ++ [⟨at', s⟩], some ⟨g1, 0, none⟩, cap1, hj, rfl, by simp, ⟨by have := HPL.out; have := HIJ.out; simp; omega⟩, ⟨by rw [HE1.out, HEND.out, HEM.out]; simp⟩, ⟨by rw [List.length_append]; exact HO1.out⟩, ⟨HB1.out⟩⟩ | trace_state
       case measure => have := HIJ.out; simp [intOf]; omega
      ·have HEM := Lib.hid (show emit at' s = [] by unfold emit; rw [if_neg (fun h => by first | exact hs0 h.1 | exact hF h.2)])
       have HSZ := Lib.hid (HST.out.trans (step_below HWQ.out)); have HXZ := Lib.hid (blk_below HX.out HWQ.out); have HBZ := Lib.hid (show Below w4.heap.size w4 wq from HB5.out.trans (HWQ.out.mono HB5.out.size)); have HOZ := Lib.hid (own_keep (HO5.out.alloc _) HSZ.out (fun e => Nat.lt_irrefl _ (own_lt' HO5.out e).2)); go_wp2; go_roundw
       case rel => first | exact ⟨l.length, pre, A, c, hj, rfl, rfl, ⟨by have := HPL.out; omega⟩, ⟨by rw [HE1.out, HEND.out, HEM.out]; rfl⟩, ⟨HOZ.out⟩, ⟨HBZ.out⟩⟩ | exact ⟨l.length, hj, rfl, pre, A, c, ⟨rfl, rfl, rfl⟩, ⟨by have := HPL.out; omega⟩, ⟨by rw [HE1.out, HEND.out, HEM.out]; rfl⟩, ⟨HOZ.out⟩, ⟨HBZ.out⟩⟩
       case measure => have := HIJ.out; simp [intOf]; omega
     ·have hF := hs0
      have HEM := Lib.hid (show emit at' s = [] by unfold emit; rw [if_neg (fun h => by first | exact hs0 h.1 | exact hF h.2)]); have HSZ := Lib.hid (HST.out.trans (step_below HWQ.out)); have HXZ := Lib.hid (blk_below HX.out HWQ.out); have HBZ := Lib.hid (show Below w4.heap.size w4 wq from HB5.out.trans (HWQ.out.mono HB5.out.size)); have HOZ := Lib.hid (own_keep (HO5.out.alloc _) HSZ.out (fun e => Nat.lt_irrefl _ (own_lt' HO5.out e).2)); go_wp2; go_roundw
      case rel => first | exact ⟨l.length, pre, A, c, hj, rfl, rfl, ⟨by have := HPL.out; omega⟩, ⟨by rw [HE1.out, HEND.out, HEM.out]; rfl⟩, ⟨HOZ.out⟩, ⟨HBZ.out⟩⟩ | exact ⟨l.length, hj, rfl, pre, A, c, ⟨rfl, rfl, rfl⟩, ⟨by have := HPL.out; omega⟩, ⟨by rw [HE1.out, HEND.out, HEM.out]; rfl⟩, ⟨HOZ.out⟩, ⟨HBZ.out⟩⟩
      case measure => have := HIJ.out; simp [intOf]; omega
  ·obtain rfl : i = l.length := by omega
   have HEQ := Lib.hid (show grp (rowJ g l.length) = pre by rw [HE.out, List.drop_eq_nil_of_le (by rw [rowJ_len]; omega)]; simp [grp]); have HBW := Lib.hid (show Below w.heap.size w wo from HB4.out.trans (HBr.out.mono HB4.out.size)); have TC := Lib.hid (step_told.calls (pre.length + 1) (fun _ => True) _ pre _ _ w wo HBW.out (R_of_cells (own_base HO5.out HB4.out.size)) (told_f pre))
   go_wp2_with (go_at_call 115; (with_reducible refine TC.out.mono ?_); rintro e w5 ⟨v5, rfl, hR, hb5, _⟩; have HR5 := Lib.hid hR; have HB5 := Lib.hid hb5; clear hR hb5)
   go_ret2; exact ⟨g, v5, HU.out, HPJ.out, by rw [HEQ.out]; rfl, by rw [HEQ.out]; exact Kd.R_mono HR5.out (fun _ _ => trivial), HB5.out⟩
end Go.Proofs.YtmkgecapkeojaaaGreat.Stp
end
section
namespace Go.Proofs.YtmkgecapkeojaaaGreat.Stp
open Go.Proofs.YtmkgecapkeojaaaGreat Go.Proofs.YtmkgecapkeojaaaGreat.PDa
open Go.RowKit Go.Proofs.YtmkgecapkeojaaaGreatW.PrintWords Go.Proofs.YtmkgecapkeojaaaGreatW.PrintLast Go.Proofs.YtmkgecapkeojaaaGreatW.PrintMore
open Go.Proofs.YtmkgecapkeojaaaGreat.SortP Go.Proofs.YtmkgecapkeojaaaGreat.SortM Go.Proofs.YtmkgecapkeojaaaGreat.Canon
def pJ (x : Jp) : Int × Int := (x.f0, x.f1)
def uJ (x : Int × Int) : Jp := ⟨x.1, x.2⟩
theorem uJ_pJ (x : Jp) : uJ (pJ x) = x := rfl
def ltI (a b : Int) : Bool := decide (a < b)
theorem ltI_ord : KOrd ltI := by
 refine ⟨?_, ?_, ?_⟩ <;> intros <;> simp_all [ltI] <;> omega
def canonJ (l : List Jp) : List Jp := (canon ltI ((l.map pJ).filter fun x => decide (x.1 < 1125899906842624))).map uJ
theorem J_emit (a s k : Int) : J ((emit a s).map pJ) k = if k < 1125899906842624 then (if a = k then s else 0) else 0 := by
 unfold emit
 by_cases h1 : s ≠ 0 ∧ a < 1125899906842624
 ·rw [if_pos h1]
  simp only [List.map_cons, List.map_nil, J_cons, J_nil, pJ]
  split <;> rename_i h2
  ·subst h2; rw [if_pos h1.2]; omega
  ·simp
 ·rw [if_neg h1]
  simp only [List.map_nil, J_nil]
  split
  ·split <;> rename_i h3
   ·subst h3; rename_i h4; by_cases hs : s = 0
    ·exact hs.symm
    ·exact absurd ⟨hs, h4⟩ h1
   ·rfl
  ·rfl
theorem J_grpAt (k : Int) : ∀ (l : List Jp) (a s : Int), J ((grpAt a s l).map pJ) k = if k < 1125899906842624 then (if a = k then s else 0) + J (l.map pJ) k else 0
 | [], a, s => by rw [grpAt, J_emit]; simp [J_nil]
 | y :: ys, a, s => by
  rw [grpAt]; simp only [List.map_cons, J_cons]
  split <;> rename_i h
  ·rw [J_grpAt k ys, show (pJ y).1 = a from h, show (pJ y).2 = y.f1 from rfl]
   by_cases hk : k < 1125899906842624
   ·rw [if_pos hk, if_pos hk]; split <;> omega
   ·rw [if_neg hk, if_neg hk]
  ·rw [List.map_append, J_append, J_emit, J_grpAt k ys, show (pJ y).1 = y.f0 from rfl, show (pJ y).2 = y.f1 from rfl]
   by_cases hk : k < 1125899906842624
   ·rw [if_pos hk, if_pos hk, if_pos hk]
   ·rw [if_neg hk, if_neg hk, if_neg hk]; rfl
theorem J_grp (k : Int) (l : List Jp) : J ((grp l).map pJ) k = if k < 1125899906842624 then J (l.map pJ) k else 0 := by
 cases l with
 | nil => simp [grp, J_nil]
 | cons x xs => rw [grp, J_grpAt, List.map_cons, J_cons]; rfl
theorem grpAt_keys : ∀ (l : List Jp) (a s : Int), (∀ y ∈ l, a ≤ y.f0) → l.Pairwise (fun x y => x.f0 ≤ y.f0) → (∀ x ∈ grpAt a s l, a ≤ x.f0) ∧ (grpAt a s l).Pairwise (fun x y => x.f0 < y.f0) ∧ ∀ x ∈ grpAt a s l, x.f1 ≠ 0
 | [], a, s, _, _ => by
  rw [grpAt]; unfold emit
  split <;> rename_i h
  ·simp; exact h.1
  ·simp
 | y :: ys, a, s, hm, hp => by
  have hp2 := List.pairwise_cons.1 hp; rw [grpAt]
  split <;> rename_i h
  ·exact grpAt_keys ys a _ (fun z hz => hm z (List.mem_cons_of_mem _ hz)) hp2.2
  ·obtain ⟨h1, h2, h3⟩ := grpAt_keys ys y.f0 y.f1 hp2.1 hp2.2
   have ha : a < y.f0 := by have := hm y (List.mem_cons_self ..); omega
   unfold emit
   split <;> rename_i hs
   ·refine ⟨fun x hx => ?_, ?_, fun x hx => ?_⟩
    ·rcases List.mem_append.1 hx with hx | hx
     ·rw [List.mem_singleton.1 hx]; exact Int.le_refl _
     ·have := h1 x hx; omega
    ·rw [List.singleton_append, List.pairwise_cons]
     exact ⟨fun x hx => by have := h1 x hx; show a < x.f0; omega, h2⟩
    ·rcases List.mem_append.1 hx with hx | hx
     ·rw [List.mem_singleton.1 hx]; exact hs.1
     ·exact h3 x hx
   ·rw [List.nil_append]
    exact ⟨fun x hx => by have := h1 x hx; omega, h2, h3⟩
theorem grp_canon (l : List Jp) (h : l.Pairwise (fun x y => x.f0 ≤ y.f0)) : IsCanon ltI ((grp l).map pJ) := by
 cases l with
 | nil => exact ⟨List.Pairwise.nil, fun x hx => by cases hx⟩
 | cons x xs =>
  have h2 := List.pairwise_cons.1 h; obtain ⟨_, h4, h5⟩ := grpAt_keys xs x.f0 x.f1 h2.1 h2.2; refine ⟨?_, fun y hy => ?_⟩
  ·rw [grp, List.pairwise_map]
   exact h4.imp fun hh => decide_eq_true hh
  ·obtain ⟨z, hz, rfl⟩ := List.mem_map.1 hy
   exact h5 z hz
theorem grp_eq {l m : List Jp} (h : m.Pairwise (fun x y => x.f0 ≤ y.f0)) (hp : m.Perm l) : grp m = canonJ l := by
 have e := canon_eq ltI_ord (l := (l.map pJ).filter fun x => decide (x.1 < 1125899906842624)) (grp_canon m h) fun k => by
  rw [J_grp, J_filterK (fun k => decide (k < 1125899906842624)), J_perm k (hp.map pJ)]; simp
 rw [canonJ, ← e, List.map_map]; exact (List.map_id _).symm.trans (List.map_congr_left fun x _ => (uJ_pJ x).symm)
theorem rowJ_sorted {g : Nat → SortJ.El} {n : Nat} (h : Up (fun x y : SortJ.El => Cmp.icmp x.at' y.at') g 0 n) : (rowJ g n).Pairwise (fun x y => x.f0 ≤ y.f0) := by
 unfold rowJ row; rw [List.map_map, List.pairwise_map]; refine List.Pairwise.imp_of_mem ?_ List.pairwise_lt_range; intro a b ha hb hab; have hle := h a b (Nat.zero_le _) hab (List.mem_range.1 hb); have : ¬ Cmp.icmp (g b).at' (g a).at' < 0 := hle; unfold Cmp.icmp at this
 show (g a).at' ≤ (g b).at'
 split at this <;> rename_i h1
 ·omega
 ·omega
def normJ (l : List Jp) : List Jp × Int := if l.any (fun x => !fairB x.f1) = true then ([], 2) else if l.any (fun x => timeB x.f0) = true then ([], 13) else toldJ (canonJ l)
end Go.Proofs.YtmkgecapkeojaaaGreat.Stp
end
