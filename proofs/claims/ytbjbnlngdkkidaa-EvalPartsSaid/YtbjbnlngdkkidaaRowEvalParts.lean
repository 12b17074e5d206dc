/- The row of EvalParts, out of its walk: for every input the law returns true, and each argument reads as it did. No condition. -/
import Derived.Test.YtbjbnlngdkkidaaRows
import Derived.Test.YtbjbnlngdkkidaaEvPt
import Derived.WalkKit
import Derived.ProofKit
import Derived.OpenShut
import Derived.ShutString
import Derived.ChangeOld
import Derived.Below
import Derived.SizedLaws
import Derived.Test.YtbjbnlngdkkidaaWSized
import Derived.Test.YtbjbnlngdkkidaaOpen
namespace Go.Proofs.Ytbjbnlngdkkidaa.evalParts
open Go.ChangeShapes Go.WideShapes Go.ChangeAt Go.RowKit
open Go.ChangeMaps (open_string shut_string)
open Go.Proofs.YtbjbnlngdkkidaaW.PrintWords
set_option linter.unusedVariables false
theorem own : ownKnob Try.prog.godebug = none := by kernel_rfl
def wf39 : Int → Prop := fun n => (Lit.int .i64 n).wf = true
theorem op39 : Opn.Opens Try.prog (Kd.int .i64) 39 wf39 := Opn.opens_int Try.underlying39 (by kernel_rfl)
def wf3 : Int → Prop := fun n => (Lit.int .i64 n).wf = true
theorem op3 : Opn.Opens Try.prog (Kd.int .i64) 3 wf3 := Opn.opens_int Try.underlying3 (by kernel_rfl)
def wf9 : ByteArray → Prop := fun s => s.size ≤ maxLen
theorem op9 : Opn.Opens Try.prog Kd.string 9 wf9 := Opn.opens_string Try.underlying9 (by kernel_rfl)
def wf41 : PEv.S41 → Prop := fun x => wf39 x.f0 ∧ wf3 x.f1 ∧ wf9 x.f2
theorem op41 : Opn.Opens Try.prog PEv.k41 41 wf41 := Opn.opens_struct (fun p => ⟨p.1, p.2.1, p.2.2⟩) (fun _ => rfl) Try.underlying41 (by kernel_rfl) (Opn.opensF_cons op39 rfl (Opn.opensF_cons op3 rfl (Opn.opensF_last op9 rfl)))
def wf23 : List (PEv.S41) → Prop := fun xs => (∀ x ∈ xs, wf41 x) ∧ xs.length ≤ maxLen
theorem op23 : Opn.Opens Try.prog (Kd.slice 41 PEv.k41) 23 wf23 := Opn.opens_slice Try.underlying23 (by kernel_rfl) op41
def wf26 : Int → Prop := fun n => (Lit.int .i64 n).wf = true
theorem op26 : Opn.Opens Try.prog (Kd.int .i64) 26 wf26 := Opn.opens_int Try.underlying26 (by kernel_rfl)
def wf28 : PEv.S28 → Prop := fun x => wf26 x.f0 ∧ wf3 x.f1 ∧ wf9 x.f2
theorem op28 : Opn.Opens Try.prog PEv.k28 28 wf28 := Opn.opens_struct (fun p => ⟨p.1, p.2.1, p.2.2⟩) (fun _ => rfl) Try.underlying28 (by kernel_rfl) (Opn.opensF_cons op26 rfl (Opn.opensF_cons op3 rfl (Opn.opensF_last op9 rfl)))
def wf25 : List (PEv.S28) → Prop := fun xs => (∀ x ∈ xs, wf28 x) ∧ xs.length ≤ maxLen
theorem op25 : Opn.Opens Try.prog (Kd.slice 28 PEv.k28) 25 wf25 := Opn.opens_slice Try.underlying25 (by kernel_rfl) op28
theorem laidOut : laidOutB Try.prog = true := by kernel_rfl
def IsRow (k : IntKind) (w : World) (a : Option Addr) (len cap : Nat) (zs : List Int) : Prop :=
  (a = none ∧ len = 0 ∧ cap = 0 ∧ zs = []) ∨
  ∃ x, a = some x ∧ len ≤ cap ∧ cap ≤ maxLen ∧ zs.length = cap ∧ (∀ i, i < zs.length → w.cell? (x.add i) = some (.int k (zs.getD i 0))) ∧ ∀ n ∈ zs, (Lit.int k n).wf = true
set_option maxRecDepth 100000 in
theorem lifted (os : Os) (started : os.Started) (H : Type) (enc : TypeId × Value → H) :
    ReturnsInHanded {} Try.checked os 4 .any (Rows.evalPartsSpec.pre6 enc Try.prog Try.f4 Rows.evalPartsRow.domain false) (Rows.evalPartsSpec.post enc Try.prog Try.f4 false true false false) := by
  refine returnsInHanded_of_change_sized (C := Try.checked) own started (by kernel_rfl) Try.func4
    (ChangeSpec.witness6 (enc := enc) (C := Try.checked) false ⟨#[], #[.slice none 0 0, .slice none 0 0], []⟩ 8 (by kernel_rfl) (by kernel_rfl) (by kernel_rfl) (by kernel_rfl)) ?_
  intro W base args ds gs before hval0 hW hcnd hsz0 _
  have hsz : (DataW.weightsEach Try.prog (Try.f4.params.toList ++ Rows.evalPartsSpec.plain.varTypes Try.prog) (ds ++ gs)).all (· ≤ reachBytes) = true := hsz0
  have hval : ∀ (j : Nat) t v, Try.f4.params[j]? = some t → args[j]? = some v → Value.okWide Try.prog W .any base t v := hval0
  have hW' := hW
  obtain ⟨p, q, hA0, hV, rfl, hfz, hnd⟩ := hW
  have hA : DataW.TrodAll enc Try.prog W 0 (fun _ => true) true Try.f4.params.toList args.toList ds p := hA0
  rw [Try.params4] at hA hval hsz
  obtain ⟨v0, vs0, d0, ds0, p0, q0, hargs, rfl, rfl, h0, r0⟩ := trodAll_cons hA
  obtain ⟨v1, vs1, d1, ds1, p1, q1, rfl, rfl, rfl, h1, r1⟩ := trodAll_cons r0
  obtain ⟨rfl, rfl, rfl⟩ := trodAll_nil r1
  obtain rfl : args = #[v0, v1] := by cases args; simp_all
  obtain ⟨rfl, rfl⟩ := trodVars_none hV
  obtain ⟨a0, len0, cap0, rfl⟩ := okWide_slice Try.underlying23 (hval 0 23 v0 rfl rfl)
  have k0 := h0
  have lt0 : ∀ x ∈ p0, x.block < W.heap.size := by obtain ⟨m, hm⟩ := k0; exact DataW.trod_lt m _ _ _ hm
  obtain ⟨l0, e0, C0, le0, w0⟩ : ∃ l : List (PEv.S41), len0 = l.length ∧ Kd.C PEv.k41 W a0 l.length l ∧ l.length ≤ cap0 ∧ wf23 l := by
    obtain ⟨fuel, hf⟩ := h0
    obtain ⟨xs, ⟨A, c, e, hle, hC⟩, hw⟩ := op23.get hf
    simp [Value.cells] at e
    obtain ⟨rfl, rfl, rfl⟩ := e
    exact ⟨xs, rfl, hC, hle, hw⟩
  subst e0
  obtain ⟨a1, len1, cap1, rfl⟩ := okWide_slice Try.underlying25 (hval 1 25 v1 rfl rfl)
  have k1 := h1
  have lt1 : ∀ x ∈ p1, x.block < W.heap.size := by obtain ⟨m, hm⟩ := k1; exact DataW.trod_lt m _ _ _ hm
  obtain ⟨l1, e1, C1, le1, w1⟩ : ∃ l : List (PEv.S28), len1 = l.length ∧ Kd.C PEv.k28 W a1 l.length l ∧ l.length ≤ cap1 ∧ wf25 l := by
    obtain ⟨fuel, hf⟩ := h1
    obtain ⟨xs, ⟨A, c, e, hle, hC⟩, hw⟩ := op25.get hf
    simp [Value.cells] at e
    obtain ⟨rfl, rfl, rfl⟩ := e
    exact ⟨xs, rfl, hC, hle, hw⟩
  subst e1
  clear hA0 hval0 hsz0 hsz
  refine (EvP.parts_walk a0 cap0 l0 a1 cap1 l1 W C0 le0 w0 C1 le1 w1).mono fun e W' ⟨he, bel⟩ => ?_
  subst he
  exact ⟨_, rfl, _, _, _, [], _, [], hW', trodAll_mk1 (shut_bool Try.underlying4 _), (trodAll_cons_mk (Below.trod laidOut (by kernel_rfl) (of_decide_eq_true (by kernel_rfl)) k0 bel lt0) (trodAll_cons_mk (Below.trod laidOut (by kernel_rfl) (of_decide_eq_true (by kernel_rfl)) k1 bel lt1) trodAll_mk0)), rfl, bel.frame _, fun h => by cases h⟩
theorem over : Rows.evalPartsRow.holds Try.pinned (OpenSpec.ofChange Rows.evalPartsSpec) :=
  OpenClaim.holds_of_wide 4 Try.f4 rfl rfl rfl rfl rfl rfl rfl ⟨rfl, rfl, rfl, rfl, rfl⟩ rfl rfl rfl rfl rfl (by kernel_rfl) Try.func4 (by kernel_rfl)
    (of_decide_eq_true (by kernel_rfl)) (by unfold Func.isWrapper; first | (rw [if_pos (by decide +kernel)]; kernel_rfl) | (rw [if_neg (by decide +kernel)]; exact ⟨rfl, rfl⟩))
    (fun os started H enc _ => lifted os started H enc)
theorem proved : Rows.EvalPartsSaid := over
#print axioms proved
end Go.Proofs.Ytbjbnlngdkkidaa.evalParts
namespace Go.Proofs.Ytbjbnlngdkkidaa
theorem evalParts_holds : Rows.EvalPartsSaid := evalParts.proved
end Go.Proofs.Ytbjbnlngdkkidaa
