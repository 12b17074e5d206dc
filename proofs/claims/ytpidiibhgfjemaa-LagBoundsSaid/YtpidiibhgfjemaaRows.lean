/-
  No cell of these rows narrows 'for every input' (looked for: loops, veiled, ifaces, maps, wideKeys, modest, calm, conditions, laid).
  DERIVED. THE GIVEN ROWS OF THIS SEAT. 2 by the template 'for every input the law returns true; each argument reads behind the call as it read before'; 0 by the template 'total and deterministic' (their statements: YtpidiibhgfjemaaTotals.lean).
  GIVEN WITH THE SEED: the statements are not yours to turn. If you find one false, say at which input.
  Laid BY PROGRAM, IN A SANDBOX (cutbox-rows.mjs): the forced cells as the released guide's own fill.sh prints them over the translation 087b5cd82a208834… (all of the seat's roots in one cut). By AI agents, Wed Nov 11 2026. No macro, syntax, notation, axiom, sorry.
-/
import Derived.Test.YtpidiibhgfjemaaChecked
import GoSem.Claim
import GoSem.ClaimJoined
import GoSem.ClaimMapViews
import Derived.JoinedTies
import Derived.KernelRfl
namespace Go.Proofs.Ytpidiibhgfjemaa
/- THE CELL 'sum', in the pinned program and in every row, IS THE sha256 OF THE DUMP (.gsa) THAT YtpidiibhgfjemaaProg.lean LOADS. Nothing in Lean hashes anything: it is a label: what it is worth is what the hold of that sum in a sandbox is worth. -/
noncomputable def Try.pinned : Pinned := { name := "ytpidiibhgfjemaa", sum := "087b5cd82a2088340fbcc3656f865073632ceea3aa2cd4d4d0d38dfd86d6efa2", checked := Try.checked }
namespace Rows
def none {H : Type} : Left H := { results := [], args := [] }

/-- 'rescindlaw40.LagNodes': WHATEVER THE INPUT: true; the input reads as it did. -/
def lagNodesSpec : ChangeSpec := { name := "lagNodes", fn := fun _ => fun
  | [d] => { results := [.lit (.bool true)], args := [d] }
  | _ => none }
def lagNodesRow : OpenClaim := { program := "ytpidiibhgfjemaa", sum := "087b5cd82a2088340fbcc3656f865073632ceea3aa2cd4d4d0d38dfd86d6efa2", func := "rescind/rescindlaw40.LagNodes", spec := "lagNodes", unfollowed := true, recurses := true, apart := false }
def LagNodesSaid : Prop := lagNodesRow.holds Try.pinned (OpenSpec.ofChange lagNodesSpec)

/-- ITS FALSE NEIGHBOUR: 'it returns false'. Refute it at one input. -/
def lagNodesWrong : ChangeSpec := { name := "lagNodes", fn := fun _ => fun
  | [d] => { results := [.lit (.bool false)], args := [d] }
  | _ => none }
def LagNodesWrongFalsely : Prop := lagNodesRow.holds Try.pinned (OpenSpec.ofChange lagNodesWrong)

/-- 'rescindlaw40.LagBounds': WHATEVER THE INPUT: true; the input reads as it did. -/
def lagBoundsSpec : ChangeSpec := { name := "lagBounds", fn := fun _ => fun
  | [d] => { results := [.lit (.bool true)], args := [d] }
  | _ => none }
def lagBoundsRow : OpenClaim := { program := "ytpidiibhgfjemaa", sum := "087b5cd82a2088340fbcc3656f865073632ceea3aa2cd4d4d0d38dfd86d6efa2", func := "rescind/rescindlaw40.LagBounds", spec := "lagBounds", unfollowed := true, recurses := true, apart := false }
def LagBoundsSaid : Prop := lagBoundsRow.holds Try.pinned (OpenSpec.ofChange lagBoundsSpec)

/-- ITS FALSE NEIGHBOUR: 'it returns false'. Refute it at one input. -/
def lagBoundsWrong : ChangeSpec := { name := "lagBounds", fn := fun _ => fun
  | [d] => { results := [.lit (.bool false)], args := [d] }
  | _ => none }
def LagBoundsWrongFalsely : Prop := lagBoundsRow.holds Try.pinned (OpenSpec.ofChange lagBoundsWrong)

/- THE SECOND FORM. 'bulk': how many values and letters a reading holds, each counted each time it is reached (what is shared counts as often as it is met; a slice's spare places count too). A statement '..UptoSaid' is the law's where the arguments, and the package variables that the reading takes, are together of bulk at most 1048576: NARROWER than '..Said'. Prove '..Said' where nothing that the law and all that it calls make is longer than what came in: it says more and counts as full. Else prove '..UptoSaid'. A law counts once. -/
mutual
def uptoBulk {H : Type} : DataW H → Nat
  | .lit (.string bytes) => bytes.length + 1
  | .lit _ => 1
  | .nil => 1
  | .ptr d => uptoBulk d + 1
  | .slice elems spare => uptoBulkAll elems + uptoBulkAll spare + 1
  | .agg parts => uptoBulkAll parts + 1
  | .iface _ d => uptoBulk d + 1
  | .map entries => uptoBulkEntries entries + 1
  | .held _ => 1
def uptoBulkAll {H : Type} : List (DataW H) → Nat
  | [] => 0
  | d :: r => uptoBulk d + uptoBulkAll r
def uptoBulkEntries {H : Type} : List (Lit × DataW H) → Nat
  | [] => 0
  | x :: r => uptoBulkEntry x + uptoBulkEntries r
def uptoBulkEntry {H : Type} : Lit × DataW H → Nat
  | (.string bytes, d) => bytes.length + uptoBulk d + 1
  | (_, d) => uptoBulk d + 1
 end
def uptoSmall : (H : Type) → List (DataW H) → Bool := fun _ ds => decide (uptoBulkAll ds ≤ 1048576)
def OpenSpec.upto (s : _root_.Go.ChangeSpec) : _root_.Go.OpenSpec := { _root_.Go.OpenSpec.ofChange s with cond := some uptoSmall }

/-- 'rescindlaw40.LagNodes', WHERE WHAT IT READS IS OF BULK AT MOST 1048576: true; the input reads as it did. -/
def lagNodesUptoRow : OpenClaim := { program := "ytpidiibhgfjemaa", sum := "087b5cd82a2088340fbcc3656f865073632ceea3aa2cd4d4d0d38dfd86d6efa2", func := "rescind/rescindlaw40.LagNodes", spec := "lagNodes", unfollowed := true, recurses := true, apart := false, narrowed := true }
def LagNodesUptoSaid : Prop := lagNodesUptoRow.holds Try.pinned (OpenSpec.upto lagNodesSpec)

/-- 'rescindlaw40.LagBounds', WHERE WHAT IT READS IS OF BULK AT MOST 1048576: true; the input reads as it did. -/
def lagBoundsUptoRow : OpenClaim := { program := "ytpidiibhgfjemaa", sum := "087b5cd82a2088340fbcc3656f865073632ceea3aa2cd4d4d0d38dfd86d6efa2", func := "rescind/rescindlaw40.LagBounds", spec := "lagBounds", unfollowed := true, recurses := true, apart := false, narrowed := true }
def LagBoundsUptoSaid : Prop := lagBoundsUptoRow.holds Try.pinned (OpenSpec.upto lagBoundsSpec)

end Rows
end Go.Proofs.Ytpidiibhgfjemaa
