/- The row of AntiAlone, out of its walk: for every input the law returns true, and each argument reads as it did. No condition. -/
import Derived.Test.YtmkgecapkeojaaaGreatRows
import Derived.WalkKit
import Derived.ProofKit
import Derived.OpenShut
import Derived.ShutString
import Derived.ChangeOld
import Derived.Below
import Derived.SizedLaws
import Derived.Test.YtmkgecapkeojaaaGreatJ15
namespace Go.Proofs.YtmkgecapkeojaaaGreat.antiAlone
open Go.ChangeShapes Go.WideShapes Go.ChangeAt Go.RowKit
open Go.ChangeMaps (open_string shut_string)
open Go.Proofs.YtmkgecapkeojaaaGreatW.PrintWords
set_option linter.unusedVariables false
theorem own : ownKnob Tryz.prog.godebug = none := by kernel_rfl
def wf63 : Int → Prop := fun n => (Lit.int .i64 n).wf = true
theorem op63 : Opz.Opens Tryz.prog (Kd.int .i64) 63 wf63 := Opz.opens_int Tryz.underlying63 (by kernel_rfl)
def wf3 : Int → Prop := fun n => (Lit.int .i64 n).wf = true
theorem op3 : Opz.Opens Tryz.prog (Kd.int .i64) 3 wf3 := Opz.opens_int Tryz.underlying3 (by kernel_rfl)
def wf9 : ByteArray → Prop := fun s => s.size ≤ 140737488351232
theorem op9 : Opz.Opens Tryz.prog Kd.string 9 wf9 := Opz.opens_string Tryz.underlying9 (by kernel_rfl)
def wf65 : PDa.S65 → Prop := fun x => wf63 x.f0 ∧ wf3 x.f1 ∧ wf9 x.f2
theorem op65 : Opz.Opens Tryz.prog PDa.k65 65 wf65 := Opz.opens_struct (fun p => ⟨p.1, p.2.1, p.2.2⟩) (fun _ => rfl) Tryz.underlying65 (by kernel_rfl) (Opz.opensF_cons op63 rfl (Opz.opensF_cons op3 rfl (Opz.opensF_last op9 rfl)))
def wf39 : List (PDa.S65) → Prop := fun xs => (∀ x ∈ xs, wf65 x) ∧ xs.length * Tryz.prog.bytesOf 65 ≤ 140737488351232
theorem op39 : Opz.Opens Tryz.prog (Kd.slice 65 PDa.k65) 39 wf39 := Opz.opens_slice Tryz.underlying39 (by kernel_rfl) op65
def wf41 : PDa.S41 → Prop := fun x => wf39 x.f0 ∧ wf3 x.f1 ∧ wf3 x.f2
theorem op41 : Opz.Opens Tryz.prog PDa.k41 41 wf41 := Opz.opens_struct (fun p => ⟨p.1, p.2.1, p.2.2⟩) (fun _ => rfl) Tryz.underlying41 (by kernel_rfl) (Opz.opensF_cons op39 rfl (Opz.opensF_cons op3 rfl (Opz.opensF_last op3 rfl)))
def wf22 : List (PDa.S41) → Prop := fun xs => (∀ x ∈ xs, wf41 x) ∧ xs.length * Tryz.prog.bytesOf 41 ≤ 140737488351232
theorem op22 : Opz.Opens Tryz.prog (Kd.slice 41 PDa.k41) 22 wf22 := Opz.opens_slice Tryz.underlying22 (by kernel_rfl) op41
def wf66 : Int → Prop := fun n => (Lit.int .i64 n).wf = true
theorem op66 : Opz.Opens Tryz.prog (Kd.int .i64) 66 wf66 := Opz.opens_int Tryz.underlying66 (by kernel_rfl)
def wf68 : PDa.S68 → Prop := fun x => wf66 x.f0 ∧ wf3 x.f1 ∧ wf9 x.f2
theorem op68 : Opz.Opens Tryz.prog PDa.k68 68 wf68 := Opz.opens_struct (fun p => ⟨p.1, p.2.1, p.2.2⟩) (fun _ => rfl) Tryz.underlying68 (by kernel_rfl) (Opz.opensF_cons op66 rfl (Opz.opensF_cons op3 rfl (Opz.opensF_last op9 rfl)))
def wf24 : List (PDa.S68) → Prop := fun xs => (∀ x ∈ xs, wf68 x) ∧ xs.length * Tryz.prog.bytesOf 68 ≤ 140737488351232
theorem op24 : Opz.Opens Tryz.prog (Kd.slice 68 PDa.k68) 24 wf24 := Opz.opens_slice Tryz.underlying24 (by kernel_rfl) op68
theorem laidOut : laidOutB Tryz.prog = true := by kernel_rfl
def IsRow (k : IntKind) (w : World) (a : Option Addr) (len cap : Nat) (zs : List Int) : Prop :=
  (a = none ∧ len = 0 ∧ cap = 0 ∧ zs = []) ∨
  ∃ x, a = some x ∧ len ≤ cap ∧ cap ≤ maxLen ∧ zs.length = cap ∧ (∀ i, i < zs.length → w.cell? (x.add i) = some (.int k (zs.getD i 0))) ∧ ∀ n ∈ zs, (Lit.int k n).wf = true
set_option maxRecDepth 100000 in
theorem lifted (os : Os) (started : os.Started) (H : Type) (enc : TypeId × Value → H) :
    ReturnsInHanded {} Tryz.checked os 13 .any (Rows.antiAloneSpec.pre6 enc Tryz.prog Tryz.f13 Rows.antiAloneRow.domain false) (Rows.antiAloneSpec.post enc Tryz.prog Tryz.f13 false true false false) := by
  refine returnsInHanded_of_change_sized (C := Tryz.checked) own started (by kernel_rfl) Tryz.func13
    (ChangeSpec.witness6 (enc := enc) (C := Tryz.checked) false ⟨#[], #[.slice none 0 0, .slice none 0 0, .slice none 0 0], []⟩ 8 (by kernel_rfl) (by kernel_rfl) (by kernel_rfl) (by kernel_rfl)) ?_
  intro W base args ds gs before hval0 hW hcnd hsz0 _
  have hsz : (DataW.weightsEach Tryz.prog (Tryz.f13.params.toList ++ Rows.antiAloneSpec.plain.varTypes Tryz.prog) (ds ++ gs)).all (· ≤ reachBytes) = true := hsz0
  have hval : ∀ (j : Nat) t v, Tryz.f13.params[j]? = some t → args[j]? = some v → Value.okWide Tryz.prog W .any base t v := hval0
  have hW' := hW
  obtain ⟨p, q, hA0, hV, rfl, hfz, hnd⟩ := hW
  have hA : DataW.TrodAll enc Tryz.prog W 0 (fun _ => true) true Tryz.f13.params.toList args.toList ds p := hA0
  rw [Tryz.params13] at hA hval hsz
  obtain ⟨v0, vs0, d0, ds0, p0, q0, hargs, rfl, rfl, h0, r0⟩ := trodAll_cons hA
  obtain ⟨v1, vs1, d1, ds1, p1, q1, rfl, rfl, rfl, h1, r1⟩ := trodAll_cons r0
  obtain ⟨v2, vs2, d2, ds2, p2, q2, rfl, rfl, rfl, h2, r2⟩ := trodAll_cons r1
  obtain ⟨rfl, rfl, rfl⟩ := trodAll_nil r2
  obtain rfl : args = #[v0, v1, v2] := by cases args; simp_all
  obtain ⟨rfl, rfl⟩ := trodVars_none hV
  obtain ⟨a0, len0, cap0, rfl⟩ := okWide_slice Tryz.underlying22 (hval 0 22 v0 rfl rfl)
  have k0 := h0
  have lt0 : ∀ x ∈ p0, x.block < W.heap.size := by obtain ⟨m, hm⟩ := k0; exact DataW.trod_lt m _ _ _ hm
  obtain ⟨l0, e0, C0, le0, w0⟩ : ∃ l : List (PDa.S41), len0 = l.length ∧ Kd.C PDa.k41 W a0 l.length l ∧ l.length ≤ cap0 ∧ wf22 l := by
    obtain ⟨fuel, hf⟩ := h0
    obtain ⟨xs, ⟨A, c, e, hle, hC⟩, hw⟩ := op22.get hf (fun q hq => of_decide_eq_true (List.all_eq_true.1 hsz q (DataW.weights_mem_each (j := 0) (t := 22) rfl rfl q hq)))
    simp [Value.cells] at e
    obtain ⟨rfl, rfl, rfl⟩ := e
    exact ⟨xs, rfl, hC, hle, hw⟩
  subst e0
  obtain ⟨a1, len1, cap1, rfl⟩ := okWide_slice Tryz.underlying22 (hval 1 22 v1 rfl rfl)
  have k1 := h1
  have lt1 : ∀ x ∈ p1, x.block < W.heap.size := by obtain ⟨m, hm⟩ := k1; exact DataW.trod_lt m _ _ _ hm
  obtain ⟨l1, e1, C1, le1, w1⟩ : ∃ l : List (PDa.S41), len1 = l.length ∧ Kd.C PDa.k41 W a1 l.length l ∧ l.length ≤ cap1 ∧ wf22 l := by
    obtain ⟨fuel, hf⟩ := h1
    obtain ⟨xs, ⟨A, c, e, hle, hC⟩, hw⟩ := op22.get hf (fun q hq => of_decide_eq_true (List.all_eq_true.1 hsz q (DataW.weights_mem_each (j := 1) (t := 22) rfl rfl q hq)))
    simp [Value.cells] at e
    obtain ⟨rfl, rfl, rfl⟩ := e
    exact ⟨xs, rfl, hC, hle, hw⟩
  subst e1
  obtain ⟨a2, len2, cap2, rfl⟩ := okWide_slice Tryz.underlying24 (hval 2 24 v2 rfl rfl)
  have k2 := h2
  have lt2 : ∀ x ∈ p2, x.block < W.heap.size := by obtain ⟨m, hm⟩ := k2; exact DataW.trod_lt m _ _ _ hm
  obtain ⟨l2, e2, C2, le2, w2⟩ : ∃ l : List (PDa.S68), len2 = l.length ∧ Kd.C PDa.k68 W a2 l.length l ∧ l.length ≤ cap2 ∧ wf24 l := by
    obtain ⟨fuel, hf⟩ := h2
    obtain ⟨xs, ⟨A, c, e, hle, hC⟩, hw⟩ := op24.get hf (fun q hq => of_decide_eq_true (List.all_eq_true.1 hsz q (DataW.weights_mem_each (j := 2) (t := 24) rfl rfl q hq)))
    simp [Value.cells] at e
    obtain ⟨rfl, rfl, rfl⟩ := e
    exact ⟨xs, rfl, hC, hle, hw⟩
  subst e2
  clear hA0 hval0 hsz0 hsz
  refine (Eg.antiAlone_walk a0 cap0 l0 a1 cap1 l1 a2 cap2 l2 W C0 le0 w0 C1 le1 w1 C2 le2 w2).mono fun e W' ⟨he, bel⟩ => ?_
  subst he
  exact ⟨_, rfl, _, _, _, [], _, [], hW', trodAll_mk1 (shut_bool Tryz.underlying4 _), (trodAll_cons_mk (Below.trod laidOut (by kernel_rfl) (of_decide_eq_true (by kernel_rfl)) k0 bel lt0) (trodAll_cons_mk (Below.trod laidOut (by kernel_rfl) (of_decide_eq_true (by kernel_rfl)) k1 bel lt1) (trodAll_cons_mk (Below.trod laidOut (by kernel_rfl) (of_decide_eq_true (by kernel_rfl)) k2 bel lt2) trodAll_mk0))), rfl, bel.frame _, fun h => by cases h⟩
theorem over : Rows.antiAloneRow.holds Tryz.pinned (OpenSpec.ofChange Rows.antiAloneSpec) :=
  OpenClaim.holds_of_wide 13 Tryz.f13 rfl rfl rfl rfl rfl rfl rfl ⟨rfl, rfl, rfl, rfl, rfl⟩ rfl rfl rfl rfl rfl (by kernel_rfl) Tryz.func13 (by kernel_rfl)
    (of_decide_eq_true (by kernel_rfl)) (by unfold Func.isWrapper; first | (rw [if_pos (by decide +kernel)]; kernel_rfl) | (rw [if_neg (by decide +kernel)]; exact ⟨rfl, rfl⟩))
    (fun os started H enc _ => lifted os started H enc)
theorem proved : Rows.AntiAloneSaid := over
#print axioms proved
end Go.Proofs.YtmkgecapkeojaaaGreat.antiAlone
namespace Go.Proofs.YtmkgecapkeojaaaGreat
/-- The row, under a short name, for the claim. -/
theorem antiAlone_holds : Rows.AntiAloneSaid := antiAlone.proved
end Go.Proofs.YtmkgecapkeojaaaGreat
