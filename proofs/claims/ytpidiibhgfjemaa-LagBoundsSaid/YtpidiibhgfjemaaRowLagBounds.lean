/- The row of LagBounds, out of its walk: for every input the law returns true, and each argument reads as it did. No condition. -/
import Derived.Test.YtpidiibhgfjemaaRows
import Derived.WalkKit
import Derived.ProofKit
import Derived.OpenShut
import Derived.ShutString
import Derived.ChangeOld
import Derived.Below
import Derived.SizedLaws
import Derived.Test.YtpidiibhgfjemaaB8
namespace Go.Proofs.Ytpidiibhgfjemaa.lagBounds
open Go.ChangeShapes Go.WideShapes Go.ChangeAt Go.RowKit
open Go.ChangeMaps (open_string shut_string)
open Go.Proofs.YtpidiibhgfjemaaW.PrintWords
set_option linter.unusedVariables false
theorem own : ownKnob Try.prog.godebug = none := by kernel_rfl
def wf35 : Int → Prop := fun n => (Lit.int .i64 n).wf = true
theorem op35 : Opn.Opens Try.prog (Kd.int .i64) 35 wf35 := Opn.opens_int Try.underlying35 (by kernel_rfl)
def wf3 : Int → Prop := fun n => (Lit.int .i64 n).wf = true
theorem op3 : Opn.Opens Try.prog (Kd.int .i64) 3 wf3 := Opn.opens_int Try.underlying3 (by kernel_rfl)
def wf77 : Int → Prop := fun n => (Lit.int .i64 n).wf = true
theorem op77 : Opn.Opens Try.prog (Kd.int .i64) 77 wf77 := Opn.opens_int Try.underlying77 (by kernel_rfl)
def wf9 : ByteArray → Prop := fun s => s.size ≤ maxLen
theorem op9 : Opn.Opens Try.prog Kd.string 9 wf9 := Opn.opens_string Try.underlying9 (by kernel_rfl)
def wf79 : PLg.S79 → Prop := fun x => wf77 x.f0 ∧ wf3 x.f1 ∧ wf9 x.f2
theorem op79 : Opn.Opens Try.prog PLg.k79 79 wf79 := Opn.opens_struct (fun p => ⟨p.1, p.2.1, p.2.2⟩) (fun _ => rfl) Try.underlying79 (by kernel_rfl) (Opn.opensF_cons op77 rfl (Opn.opensF_cons op3 rfl (Opn.opensF_last op9 rfl)))
def wf62 : List (PLg.S79) → Prop := fun xs => (∀ x ∈ xs, wf79 x) ∧ xs.length ≤ maxLen
theorem op62 : Opn.Opens Try.prog (Kd.slice 79 PLg.k79) 62 wf62 := Opn.opens_slice Try.underlying62 (by kernel_rfl) op79
def wf36 : List (List (PLg.S79)) → Prop := fun xs => (∀ x ∈ xs, wf62 x) ∧ xs.length ≤ maxLen
theorem op36 : Opn.Opens Try.prog (Kd.slice 62 (Kd.slice 79 PLg.k79)) 36 wf36 := Opn.opens_slice Try.underlying36 (by kernel_rfl) op62
def wf37 : List (ByteArray) → Prop := fun xs => (∀ x ∈ xs, wf9 x) ∧ xs.length ≤ maxLen
theorem op37 : Opn.Opens Try.prog (Kd.slice 9 Kd.string) 37 wf37 := Opn.opens_slice Try.underlying37 (by kernel_rfl) op9
def wf25 : List (Int) → Prop := fun xs => (∀ x ∈ xs, wf3 x) ∧ xs.length ≤ maxLen
theorem op25 : Opn.Opens Try.prog (Kd.slice 3 (Kd.int .i64)) 25 wf25 := Opn.opens_slice Try.underlying25 (by kernel_rfl) op3
def wf41 : Int → Prop := fun n => (Lit.int .i64 n).wf = true
theorem op41 : Opn.Opens Try.prog (Kd.int .i64) 41 wf41 := Opn.opens_int Try.underlying41 (by kernel_rfl)
def wf43 : PLg.S43 → Prop := fun x => wf41 x.f0 ∧ wf3 x.f1 ∧ wf9 x.f2
theorem op43 : Opn.Opens Try.prog PLg.k43 43 wf43 := Opn.opens_struct (fun p => ⟨p.1, p.2.1, p.2.2⟩) (fun _ => rfl) Try.underlying43 (by kernel_rfl) (Opn.opensF_cons op41 rfl (Opn.opensF_cons op3 rfl (Opn.opensF_last op9 rfl)))
def wf38 : List (PLg.S43) → Prop := fun xs => (∀ x ∈ xs, wf43 x) ∧ xs.length ≤ maxLen
theorem op38 : Opn.Opens Try.prog (Kd.slice 43 PLg.k43) 38 wf38 := Opn.opens_slice Try.underlying38 (by kernel_rfl) op43
def wf32 : Int → Prop := fun n => (Lit.int .i64 n).wf = true
theorem op32 : Opn.Opens Try.prog (Kd.int .i64) 32 wf32 := Opn.opens_int Try.underlying32 (by kernel_rfl)
def wf34 : PLg.S34 → Prop := fun x => wf32 x.f0 ∧ wf3 x.f1 ∧ wf3 x.f2
theorem op34 : Opn.Opens Try.prog PLg.k34 34 wf34 := Opn.opens_struct (fun p => ⟨p.1, p.2.1, p.2.2⟩) (fun _ => rfl) Try.underlying34 (by kernel_rfl) (Opn.opensF_cons op32 rfl (Opn.opensF_cons op3 rfl (Opn.opensF_last op3 rfl)))
def wf40 : PLg.S40 → Prop := fun x => wf35 x.f0 ∧ wf3 x.f1 ∧ wf3 x.f2 ∧ wf36 x.f3 ∧ wf37 x.f4 ∧ wf25 x.f5 ∧ wf38 x.f6 ∧ wf34 x.f7 ∧ wf3 x.f8 ∧ wf3 x.f9
theorem op40 : Opn.Opens Try.prog PLg.k40 40 wf40 := Opn.opens_struct (fun p => ⟨p.1, p.2.1, p.2.2.1, p.2.2.2.1, p.2.2.2.2.1, p.2.2.2.2.2.1, p.2.2.2.2.2.2.1, p.2.2.2.2.2.2.2.1, p.2.2.2.2.2.2.2.2.1, p.2.2.2.2.2.2.2.2.2⟩) (fun _ => rfl) Try.underlying40 (by kernel_rfl) (Opn.opensF_cons op35 rfl (Opn.opensF_cons op3 rfl (Opn.opensF_cons op3 rfl (Opn.opensF_cons op36 rfl (Opn.opensF_cons op37 rfl (Opn.opensF_cons op25 rfl (Opn.opensF_cons op38 rfl (Opn.opensF_cons op34 rfl (Opn.opensF_cons op3 rfl (Opn.opensF_last op3 rfl))))))))))
def wf23 : List (PLg.S40) → Prop := fun xs => (∀ x ∈ xs, wf40 x) ∧ xs.length ≤ maxLen
theorem op23 : Opn.Opens Try.prog (Kd.slice 40 PLg.k40) 23 wf23 := Opn.opens_slice Try.underlying23 (by kernel_rfl) op40
theorem laidOut : laidOutB Try.prog = true := by kernel_rfl
def IsRow (k : IntKind) (w : World) (a : Option Addr) (len cap : Nat) (zs : List Int) : Prop :=
  (a = none ∧ len = 0 ∧ cap = 0 ∧ zs = []) ∨
  ∃ x, a = some x ∧ len ≤ cap ∧ cap ≤ maxLen ∧ zs.length = cap ∧ (∀ i, i < zs.length → w.cell? (x.add i) = some (.int k (zs.getD i 0))) ∧ ∀ n ∈ zs, (Lit.int k n).wf = true
set_option maxRecDepth 100000 in
theorem lifted (os : Os) (started : os.Started) (H : Type) (enc : TypeId × Value → H) :
    ReturnsInHanded {} Try.checked os 4 .any (Rows.lagBoundsSpec.pre6 enc Try.prog Try.f4 Rows.lagBoundsRow.domain false) (Rows.lagBoundsSpec.post enc Try.prog Try.f4 false true false false) := by
  refine returnsInHanded_of_change_sized (C := Try.checked) own started (by kernel_rfl) Try.func4
    (ChangeSpec.witness6 (enc := enc) (C := Try.checked) false ⟨#[], #[.slice none 0 0], []⟩ 8 (by kernel_rfl) (by kernel_rfl) (by kernel_rfl) (by kernel_rfl)) ?_
  intro W base args ds gs before hval0 hW hcnd hsz0 _
  have hsz : (DataW.weightsEach Try.prog (Try.f4.params.toList ++ Rows.lagBoundsSpec.plain.varTypes Try.prog) (ds ++ gs)).all (· ≤ reachBytes) = true := hsz0
  have hval : ∀ (j : Nat) t v, Try.f4.params[j]? = some t → args[j]? = some v → Value.okWide Try.prog W .any base t v := hval0
  have hW' := hW
  obtain ⟨p, q, hA0, hV, rfl, hfz, hnd⟩ := hW
  have hA : DataW.TrodAll enc Try.prog W 0 (fun _ => true) true Try.f4.params.toList args.toList ds p := hA0
  rw [Try.params4] at hA hval hsz
  obtain ⟨v0, vs0, d0, ds0, p0, q0, hargs, rfl, rfl, h0, r0⟩ := trodAll_cons hA
  obtain ⟨rfl, rfl, rfl⟩ := trodAll_nil r0
  obtain rfl : args = #[v0] := by cases args; simp_all
  obtain ⟨rfl, rfl⟩ := trodVars_none hV
  obtain ⟨a0, len0, cap0, rfl⟩ := okWide_slice Try.underlying23 (hval 0 23 v0 rfl rfl)
  have k0 := h0
  have lt0 : ∀ x ∈ p0, x.block < W.heap.size := by obtain ⟨m, hm⟩ := k0; exact DataW.trod_lt m _ _ _ hm
  obtain ⟨l0, e0, C0, le0, w0⟩ : ∃ l : List (PLg.S40), len0 = l.length ∧ Kd.C PLg.k40 W a0 l.length l ∧ l.length ≤ cap0 ∧ wf23 l := by
    obtain ⟨fuel, hf⟩ := h0
    obtain ⟨xs, ⟨A, c, e, hle, hC⟩, hw⟩ := op23.get hf
    simp [Value.cells] at e
    obtain ⟨rfl, rfl, rfl⟩ := e
    exact ⟨xs, rfl, hC, hle, hw⟩
  subst e0
  clear hA0 hval0 hsz0 hsz
  refine (LgP.lagBounds_walk a0 cap0 l0 W C0 le0 w0).mono fun e W' ⟨he, bel⟩ => ?_
  subst he
  exact ⟨_, rfl, _, _, _, [], _, [], hW', trodAll_mk1 (shut_bool Try.underlying4 _), (trodAll_cons_mk (Below.trod laidOut (by kernel_rfl) (of_decide_eq_true (by kernel_rfl)) k0 bel lt0) trodAll_mk0), rfl, bel.frame _, fun h => by cases h⟩
theorem over : Rows.lagBoundsRow.holds Try.pinned (OpenSpec.ofChange Rows.lagBoundsSpec) :=
  OpenClaim.holds_of_wide 4 Try.f4 rfl rfl rfl rfl rfl rfl rfl ⟨rfl, rfl, rfl, rfl, rfl⟩ rfl rfl rfl rfl rfl (by kernel_rfl) Try.func4 (by kernel_rfl)
    (of_decide_eq_true (by kernel_rfl)) (by unfold Func.isWrapper; first | (rw [if_pos (by decide +kernel)]; kernel_rfl) | (rw [if_neg (by decide +kernel)]; exact ⟨rfl, rfl⟩))
    (fun os started H enc _ => lifted os started H enc)
theorem proved : Rows.LagBoundsSaid := over
#print axioms proved
end Go.Proofs.Ytpidiibhgfjemaa.lagBounds
namespace Go.Proofs.Ytpidiibhgfjemaa
/-- The row, under a short name, for the claim. -/
theorem lagBounds_holds : Rows.LagBoundsSaid := lagBounds.proved
end Go.Proofs.Ytpidiibhgfjemaa
