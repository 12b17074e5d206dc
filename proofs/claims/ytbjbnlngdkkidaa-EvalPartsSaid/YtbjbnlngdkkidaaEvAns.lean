/- EvalAnswers: enough fuel gives true. -/
import Derived.Test.YtbjbnlngdkkidaaEvR
import Derived.Test.YtbjbnlngdkkidaaPEvx10
namespace Go.Proofs.Ytbjbnlngdkkidaa.EvP
open Go.RowKit Go.Proofs.YtbjbnlngdkkidaaW.PrintWords Go.Proofs.YtbjbnlngdkkidaaW.PrintLast Go.Proofs.YtbjbnlngdkkidaaW.PrintMore
open Go.Proofs.Ytbjbnlngdkkidaa.PEv
set_option linter.unusedSimpArgs false
set_option linter.unusedVariables false
theorem holds_R (x : List O) (row : List Vl) (h : XOk x row) : U (fun k => rescindref18_Holds.f k x row) (holdsV x row) := by
  refine U.bind (eval_R x row h) ?_
  unfold holdsV
  by_cases h0 : (evalV x row).2.2.2 = 0
  · refine U.pos h0 ?_
    by_cases h1 : (evalV x row).1 = 1
    · refine U.pos h1 (U.const ?_); rw [if_pos h0, if_pos h1]
    · refine U.neg h1 (U.const ?_); rw [if_pos h0, if_neg h1]
  · refine U.neg h0 (U.const ?_); rw [if_neg h0]
theorem nilT : (⟨#[]⟩ : ByteArray).toList = [] := (toList_nil_iff_emptyBytes _).2 rfl
def lx : List O := [⟨3, 0, ⟨#[]⟩⟩, ⟨1, 3, ⟨#[]⟩⟩, ⟨10, 0, ⟨#[]⟩⟩]
def lt : T := .b ⟨10, 0, ⟨#[]⟩⟩ (.l ⟨3, 0, ⟨#[]⟩⟩) (.l ⟨1, 3, ⟨#[]⟩⟩)
theorem lt_ok : lt.ok := by
  refine ⟨?_, by decide, ⟨?_, by decide⟩, ⟨?_, by decide⟩⟩ <;> simp [okW, noT, nilT, takes]
theorem lx_form : formV lx = 0 := by
  have h := parse_fl lt lt_ok [] []
  rw [List.append_nil] at h
  have e : lt.fl = lx := rfl
  unfold formV
  rw [if_neg (by decide), ← e, h]; rfl
theorem live_a : evalV lx [⟨1, 7, ⟨#[]⟩⟩] = (1, 2, ⟨#[]⟩, 0) := by
  have e : lt.fl = lx := rfl
  rw [← e, evalV_T lt lt_ok _ (by rw [e]; exact lx_form) (by simp [rowMay, thOf, nilT])]
  rfl
theorem live_c : (evalV lx [⟨2, 0, ⟨#[97]⟩⟩]).2.2.2 = 12 := by
  have e : lt.fl = lx := rfl
  rw [← e, evalV_T lt lt_ok _ (by rw [e]; exact lx_form) (by
    have : (⟨#[97]⟩ : ByteArray).size = 1 := rfl
    simp [rowMay, thOf, this])]
  rfl
theorem live_U : U (fun k => rescindlaw18_live.f k) true := by
  unfold rescindlaw18_live.f
  have r : ∀ z : Int, -100 ≤ z → z ≤ 100 → R64 z := fun z h0 h1 => by unfold R64; omega
  have k1 : XOk lx [⟨1, 7, ⟨#[]⟩⟩] := ⟨by intro o ho; simp [lx] at ho; rcases ho with rfl | rfl | rfl <;> exact r _ (by decide) (by decide), by intro o ho; simp at ho; subst ho; exact r _ (by decide) (by decide)⟩
  have k2 : XOk lx [⟨2, 0, ⟨#[97]⟩⟩] := ⟨k1.x, by intro o ho; simp at ho; subst ho; exact r _ (by decide) (by decide)⟩
  refine U.bind (U.some _) (U.bind (U.some _) ?_)
  refine U.bind (eval_E lx _ k1) (U.bind (holds_E lx _ k1) (U.bind (eval_E lx _ k2) ?_))
  unfold holdsV
  rw [live_a, live_c]
  refine U.pos ?_ (U.pos rfl (U.pos rfl (U.pos rfl (U.some _))))
  simp [nilT]
theorem answers (x : List O) (row : List Vl) (h : XOk x row) : U (fun k => rescindlaw18_EvalAnswers.f k x row) true := by
  unfold rescindlaw18_EvalAnswers.f
  refine U.bind (eval_E x row h) (U.bind (eval_R x row h) (U.bind (holds_E x row h) (U.bind (holds_R x row h) (U.bind live_U (U.pos rfl ?_)))))
  refine U.pos (by simp) (U.pos rfl (U.pos (by simp) (U.const ?_)))
  simp
end Go.Proofs.Ytbjbnlngdkkidaa.EvP
