/- EvalAnswers: the law returns true, whatever its arguments are. -/
import Derived.Test.YtbjbnlngdkkidaaEvAns
namespace Go.Proofs.Ytbjbnlngdkkidaa.EvP
open Go.RowKit Go.Proofs.YtbjbnlngdkkidaaW.PrintWords Go.Proofs.YtbjbnlngdkkidaaW.PrintLast Go.Proofs.YtbjbnlngdkkidaaW.PrintMore
open Go.Proofs.Ytbjbnlngdkkidaa.PEv
theorem answers_walk (A0 : Option Addr) (c0 : Nat) (l0 : List O) (A1 : Option Addr) (c1 : Nat) (l1 : List Vl) (w : World)
    (hr0 : Kd.C k41 w A0 l0.length l0) (hc0 : l0.length ≤ c0)
    (h0 : (∀ x ∈ l0, (Lit.int .i64 x.f0).wf = true ∧ (Lit.int .i64 x.f1).wf = true ∧ x.f2.size ≤ maxLen) ∧ l0.length ≤ maxLen)
    (hr1 : Kd.C k28 w A1 l1.length l1) (hc1 : l1.length ≤ c1)
    (h1 : (∀ x ∈ l1, (Lit.int .i64 x.f0).wf = true ∧ (Lit.int .i64 x.f1).wf = true ∧ x.f2.size ≤ maxLen) ∧ l1.length ≤ maxLen) :
    Calls Try.prog 3 #[.slice A0 l0.length c0, .slice A1 l1.length c1] w fun e w' => e = .returned (.bool true) ∧ Below w.heap.size w w' := by
  obtain ⟨k, hk⟩ := (answers l0 l1 ⟨fun o ho => R64.of_wf (h0.1 o ho).2.1, fun v hv => R64.of_wf (h1.1 v hv).2.1⟩).get
  exact rescindlaw18_EvalAnswers.calls k A0 c0 l0 A1 c1 l1 true w hr0 hc0 hr1 hc1 hk
end Go.Proofs.Ytbjbnlngdkkidaa.EvP
