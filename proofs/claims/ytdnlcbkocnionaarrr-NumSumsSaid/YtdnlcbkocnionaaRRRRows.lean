/-
  No cell of these rows narrows 'for every input' (looked for: loops, veiled, ifaces, maps, wideKeys, modest, calm, conditions, laid).
  DERIVED. THE GIVEN ROWS OF THIS SEAT. 9 by the template 'for every input the law returns true; each argument reads behind the call as it read before'; 0 by the template 'total and deterministic' (their statements: YtdnlcbkocnionaaRRRTotals.lean).
  GIVEN WITH THE SEED: the statements are not yours to turn. If you find one false, say at which input.
  Laid BY PROGRAM, IN A SANDBOX (cutbox-rows.mjs): the forced cells as the released guide's own fill.sh prints them over the translation e4b62e5c2f00381f… (all of the seat's roots in one cut). By AI agents, Wed Nov 11 2026. No macro, syntax, notation, axiom, sorry.
-/
import Derived.Test.YtdnlcbkocnionaaRRRChecked
import GoSem.Claim
import GoSem.ClaimJoined
import GoSem.ClaimMapViews
import Derived.JoinedTies
import Derived.KernelRfl
namespace Go.Proofs.YtdnlcbkocnionaaRRR
/- THE CELL 'sum', in the pinned program and in every row, IS THE sha256 OF THE DUMP (.gsa) THAT YtdnlcbkocnionaaRRRProg.lean LOADS. Nothing in Lean hashes anything: it is a label: what it is worth is what the hold of that sum in a sandbox is worth. -/
noncomputable def Try.pinned : Pinned := { name := "ytdnlcbkocnionaarrr", sum := "e4b62e5c2f00381f782f6d31d1142f64b98c1204bb419618e6c395e0f9f58e2a", checked := Try.checked }
namespace Rows
def none {H : Type} : Left H := { results := [], args := [] }

/-- 'rescindlaw01.NumMuls': WHATEVER THE INPUT: true; the input reads as it did. -/
def numMulsSpec : ChangeSpec := { name := "numMuls", fn := fun _ => fun
  | [d1, d2] => { results := [.lit (.bool true)], args := [d1, d2] }
  | _ => none }
def numMulsRow : OpenClaim := { program := "ytdnlcbkocnionaarrr", sum := "e4b62e5c2f00381f782f6d31d1142f64b98c1204bb419618e6c395e0f9f58e2a", func := "rescind/rescindlaw01.NumMuls", spec := "numMuls", apart := false }
def NumMulsSaid : Prop := numMulsRow.holds Try.pinned (OpenSpec.ofChange numMulsSpec)

/-- ITS FALSE NEIGHBOUR: 'it returns false'. Refute it at one input. -/
def numMulsWrong : ChangeSpec := { name := "numMuls", fn := fun _ => fun
  | [d1, d2] => { results := [.lit (.bool false)], args := [d1, d2] }
  | _ => none }
def NumMulsWrongFalsely : Prop := numMulsRow.holds Try.pinned (OpenSpec.ofChange numMulsWrong)

/-- 'rescindlaw01.NumParts': WHATEVER THE INPUT: true; the input reads as it did. -/
def numPartsSpec : ChangeSpec := { name := "numParts", fn := fun _ => fun
  | [d1, d2] => { results := [.lit (.bool true)], args := [d1, d2] }
  | _ => none }
def numPartsRow : OpenClaim := { program := "ytdnlcbkocnionaarrr", sum := "e4b62e5c2f00381f782f6d31d1142f64b98c1204bb419618e6c395e0f9f58e2a", func := "rescind/rescindlaw01.NumParts", spec := "numParts", apart := false }
def NumPartsSaid : Prop := numPartsRow.holds Try.pinned (OpenSpec.ofChange numPartsSpec)

/-- ITS FALSE NEIGHBOUR: 'it returns false'. Refute it at one input. -/
def numPartsWrong : ChangeSpec := { name := "numParts", fn := fun _ => fun
  | [d1, d2] => { results := [.lit (.bool false)], args := [d1, d2] }
  | _ => none }
def NumPartsWrongFalsely : Prop := numPartsRow.holds Try.pinned (OpenSpec.ofChange numPartsWrong)

/-- 'rescindlaw01.NumFloors': WHATEVER THE INPUT: true; the input reads as it did. -/
def numFloorsSpec : ChangeSpec := { name := "numFloors", fn := fun _ => fun
  | [d1, d2] => { results := [.lit (.bool true)], args := [d1, d2] }
  | _ => none }
def numFloorsRow : OpenClaim := { program := "ytdnlcbkocnionaarrr", sum := "e4b62e5c2f00381f782f6d31d1142f64b98c1204bb419618e6c395e0f9f58e2a", func := "rescind/rescindlaw01.NumFloors", spec := "numFloors", apart := false }
def NumFloorsSaid : Prop := numFloorsRow.holds Try.pinned (OpenSpec.ofChange numFloorsSpec)

/-- ITS FALSE NEIGHBOUR: 'it returns false'. Refute it at one input. -/
def numFloorsWrong : ChangeSpec := { name := "numFloors", fn := fun _ => fun
  | [d1, d2] => { results := [.lit (.bool false)], args := [d1, d2] }
  | _ => none }
def NumFloorsWrongFalsely : Prop := numFloorsRow.holds Try.pinned (OpenSpec.ofChange numFloorsWrong)

/-- 'rescindlaw01.NumAdds': WHATEVER THE INPUT: true; the input reads as it did. -/
def numAddsSpec : ChangeSpec := { name := "numAdds", fn := fun _ => fun
  | [d1, d2] => { results := [.lit (.bool true)], args := [d1, d2] }
  | _ => none }
def numAddsRow : OpenClaim := { program := "ytdnlcbkocnionaarrr", sum := "e4b62e5c2f00381f782f6d31d1142f64b98c1204bb419618e6c395e0f9f58e2a", func := "rescind/rescindlaw01.NumAdds", spec := "numAdds", apart := false }
def NumAddsSaid : Prop := numAddsRow.holds Try.pinned (OpenSpec.ofChange numAddsSpec)

/-- ITS FALSE NEIGHBOUR: 'it returns false'. Refute it at one input. -/
def numAddsWrong : ChangeSpec := { name := "numAdds", fn := fun _ => fun
  | [d1, d2] => { results := [.lit (.bool false)], args := [d1, d2] }
  | _ => none }
def NumAddsWrongFalsely : Prop := numAddsRow.holds Try.pinned (OpenSpec.ofChange numAddsWrong)

/-- 'rescindlaw01.NumSums': WHATEVER THE INPUT: true; the input reads as it did. -/
def numSumsSpec : ChangeSpec := { name := "numSums", fn := fun _ => fun
  | [d] => { results := [.lit (.bool true)], args := [d] }
  | _ => none }
def numSumsRow : OpenClaim := { program := "ytdnlcbkocnionaarrr", sum := "e4b62e5c2f00381f782f6d31d1142f64b98c1204bb419618e6c395e0f9f58e2a", func := "rescind/rescindlaw01.NumSums", spec := "numSums", inPlace := ["math/bits.Add64"], unfollowed := true, recurses := true, apart := false }
def NumSumsSaid : Prop := numSumsRow.holds Try.pinned (OpenSpec.ofChange numSumsSpec)

/-- ITS FALSE NEIGHBOUR: 'it returns false'. Refute it at one input. -/
def numSumsWrong : ChangeSpec := { name := "numSums", fn := fun _ => fun
  | [d] => { results := [.lit (.bool false)], args := [d] }
  | _ => none }
def NumSumsWrongFalsely : Prop := numSumsRow.holds Try.pinned (OpenSpec.ofChange numSumsWrong)

/-- 'rescindlaw01.NumReads': WHATEVER THE INPUT: true; the input reads as it did. -/
def numReadsSpec : ChangeSpec := { name := "numReads", fn := fun _ => fun
  | [d] => { results := [.lit (.bool true)], args := [d] }
  | _ => none }
def numReadsRow : OpenClaim := { program := "ytdnlcbkocnionaarrr", sum := "e4b62e5c2f00381f782f6d31d1142f64b98c1204bb419618e6c395e0f9f58e2a", func := "rescind/rescindlaw01.NumReads", spec := "numReads", apart := false }
def NumReadsSaid : Prop := numReadsRow.holds Try.pinned (OpenSpec.ofChange numReadsSpec)

/-- ITS FALSE NEIGHBOUR: 'it returns false'. Refute it at one input. -/
def numReadsWrong : ChangeSpec := { name := "numReads", fn := fun _ => fun
  | [d] => { results := [.lit (.bool false)], args := [d] }
  | _ => none }
def NumReadsWrongFalsely : Prop := numReadsRow.holds Try.pinned (OpenSpec.ofChange numReadsWrong)

/-- 'rescindlaw01.NumShows': WHATEVER THE INPUT: true; the input reads as it did. -/
def numShowsSpec : ChangeSpec := { name := "numShows", fn := fun _ => fun
  | [d] => { results := [.lit (.bool true)], args := [d] }
  | _ => none }
def numShowsRow : OpenClaim := { program := "ytdnlcbkocnionaarrr", sum := "e4b62e5c2f00381f782f6d31d1142f64b98c1204bb419618e6c395e0f9f58e2a", func := "rescind/rescindlaw01.NumShows", spec := "numShows", recurses := true, apart := false }
def NumShowsSaid : Prop := numShowsRow.holds Try.pinned (OpenSpec.ofChange numShowsSpec)

/-- ITS FALSE NEIGHBOUR: 'it returns false'. Refute it at one input. -/
def numShowsWrong : ChangeSpec := { name := "numShows", fn := fun _ => fun
  | [d] => { results := [.lit (.bool false)], args := [d] }
  | _ => none }
def NumShowsWrongFalsely : Prop := numShowsRow.holds Try.pinned (OpenSpec.ofChange numShowsWrong)

/-- 'rescindlaw40.LagBounds': WHATEVER THE INPUT: true; the input reads as it did. -/
def lagBoundsSpec : ChangeSpec := { name := "lagBounds", fn := fun _ => fun
  | [d] => { results := [.lit (.bool true)], args := [d] }
  | _ => none }
def lagBoundsRow : OpenClaim := { program := "ytdnlcbkocnionaarrr", sum := "e4b62e5c2f00381f782f6d31d1142f64b98c1204bb419618e6c395e0f9f58e2a", func := "rescind/rescindlaw40.LagBounds", spec := "lagBounds", unfollowed := true, recurses := true, apart := false }
def LagBoundsSaid : Prop := lagBoundsRow.holds Try.pinned (OpenSpec.ofChange lagBoundsSpec)

/-- ITS FALSE NEIGHBOUR: 'it returns false'. Refute it at one input. -/
def lagBoundsWrong : ChangeSpec := { name := "lagBounds", fn := fun _ => fun
  | [d] => { results := [.lit (.bool false)], args := [d] }
  | _ => none }
def LagBoundsWrongFalsely : Prop := lagBoundsRow.holds Try.pinned (OpenSpec.ofChange lagBoundsWrong)

/-- 'rescindlaw18.EvalParts': WHATEVER THE INPUT: true; the input reads as it did. -/
def evalPartsSpec : ChangeSpec := { name := "evalParts", fn := fun _ => fun
  | [d1, d2] => { results := [.lit (.bool true)], args := [d1, d2] }
  | _ => none }
def evalPartsRow : OpenClaim := { program := "ytdnlcbkocnionaarrr", sum := "e4b62e5c2f00381f782f6d31d1142f64b98c1204bb419618e6c395e0f9f58e2a", func := "rescind/rescindlaw18.EvalParts", spec := "evalParts", inPlace := ["internal/bytealg.abigen_runtime_cmpstring"], unfollowed := true, recurses := true, apart := false }
def EvalPartsSaid : Prop := evalPartsRow.holds Try.pinned (OpenSpec.ofChange evalPartsSpec)

/-- ITS FALSE NEIGHBOUR: 'it returns false'. Refute it at one input. -/
def evalPartsWrong : ChangeSpec := { name := "evalParts", fn := fun _ => fun
  | [d1, d2] => { results := [.lit (.bool false)], args := [d1, d2] }
  | _ => none }
def EvalPartsWrongFalsely : Prop := evalPartsRow.holds Try.pinned (OpenSpec.ofChange evalPartsWrong)

/- THE SECOND FORM. 'bulk': how many values and letters a reading holds, each counted each time it is reached (what is shared counts as often as it is met; a slice's spare places count too). A statement '..UptoSaid' is the law's where the arguments, and the package variables that the reading takes, are together of bulk at most 1048576: NARROWER than '..Said'. Prove '..Said' where nothing that the law and all that it calls make is longer than what came in: it says more and counts as full. Else prove '..UptoSaid'. A law counts once. -/
mutual
def uptoBulk {H : Type} : DataW H → Nat
  | .lit (.string bytes) => bytes.length + 1
  | .lit _ => 1
  | .nil => 1
  | .ptr d => uptoBulk d + 1
  | .slice elems spare => uptoBulkAll elems + uptoBulkAll spare + 1
  | .agg parts => uptoBulkAll parts + 1
  | .iface _ d => uptoBulk d + 1
  | .map entries => uptoBulkEntries entries + 1
  | .held _ => 1
def uptoBulkAll {H : Type} : List (DataW H) → Nat
  | [] => 0
  | d :: r => uptoBulk d + uptoBulkAll r
def uptoBulkEntries {H : Type} : List (Lit × DataW H) → Nat
  | [] => 0
  | x :: r => uptoBulkEntry x + uptoBulkEntries r
def uptoBulkEntry {H : Type} : Lit × DataW H → Nat
  | (.string bytes, d) => bytes.length + uptoBulk d + 1
  | (_, d) => uptoBulk d + 1
 end
def uptoSmall : (H : Type) → List (DataW H) → Bool := fun _ ds => decide (uptoBulkAll ds ≤ 1048576)
def OpenSpec.upto (s : _root_.Go.ChangeSpec) : _root_.Go.OpenSpec := { _root_.Go.OpenSpec.ofChange s with cond := some uptoSmall }

/-- 'rescindlaw01.NumMuls', WHERE WHAT IT READS IS OF BULK AT MOST 1048576: true; the input reads as it did. -/
def numMulsUptoRow : OpenClaim := { program := "ytdnlcbkocnionaarrr", sum := "e4b62e5c2f00381f782f6d31d1142f64b98c1204bb419618e6c395e0f9f58e2a", func := "rescind/rescindlaw01.NumMuls", spec := "numMuls", apart := false, narrowed := true }
def NumMulsUptoSaid : Prop := numMulsUptoRow.holds Try.pinned (OpenSpec.upto numMulsSpec)

/-- 'rescindlaw01.NumParts', WHERE WHAT IT READS IS OF BULK AT MOST 1048576: true; the input reads as it did. -/
def numPartsUptoRow : OpenClaim := { program := "ytdnlcbkocnionaarrr", sum := "e4b62e5c2f00381f782f6d31d1142f64b98c1204bb419618e6c395e0f9f58e2a", func := "rescind/rescindlaw01.NumParts", spec := "numParts", apart := false, narrowed := true }
def NumPartsUptoSaid : Prop := numPartsUptoRow.holds Try.pinned (OpenSpec.upto numPartsSpec)

/-- 'rescindlaw01.NumFloors', WHERE WHAT IT READS IS OF BULK AT MOST 1048576: true; the input reads as it did. -/
def numFloorsUptoRow : OpenClaim := { program := "ytdnlcbkocnionaarrr", sum := "e4b62e5c2f00381f782f6d31d1142f64b98c1204bb419618e6c395e0f9f58e2a", func := "rescind/rescindlaw01.NumFloors", spec := "numFloors", apart := false, narrowed := true }
def NumFloorsUptoSaid : Prop := numFloorsUptoRow.holds Try.pinned (OpenSpec.upto numFloorsSpec)

/-- 'rescindlaw01.NumAdds', WHERE WHAT IT READS IS OF BULK AT MOST 1048576: true; the input reads as it did. -/
def numAddsUptoRow : OpenClaim := { program := "ytdnlcbkocnionaarrr", sum := "e4b62e5c2f00381f782f6d31d1142f64b98c1204bb419618e6c395e0f9f58e2a", func := "rescind/rescindlaw01.NumAdds", spec := "numAdds", apart := false, narrowed := true }
def NumAddsUptoSaid : Prop := numAddsUptoRow.holds Try.pinned (OpenSpec.upto numAddsSpec)

/-- 'rescindlaw01.NumSums', WHERE WHAT IT READS IS OF BULK AT MOST 1048576: true; the input reads as it did. -/
def numSumsUptoRow : OpenClaim := { program := "ytdnlcbkocnionaarrr", sum := "e4b62e5c2f00381f782f6d31d1142f64b98c1204bb419618e6c395e0f9f58e2a", func := "rescind/rescindlaw01.NumSums", spec := "numSums", inPlace := ["math/bits.Add64"], unfollowed := true, recurses := true, apart := false, narrowed := true }
def NumSumsUptoSaid : Prop := numSumsUptoRow.holds Try.pinned (OpenSpec.upto numSumsSpec)

/-- 'rescindlaw01.NumReads', WHERE WHAT IT READS IS OF BULK AT MOST 1048576: true; the input reads as it did. -/
def numReadsUptoRow : OpenClaim := { program := "ytdnlcbkocnionaarrr", sum := "e4b62e5c2f00381f782f6d31d1142f64b98c1204bb419618e6c395e0f9f58e2a", func := "rescind/rescindlaw01.NumReads", spec := "numReads", apart := false, narrowed := true }
def NumReadsUptoSaid : Prop := numReadsUptoRow.holds Try.pinned (OpenSpec.upto numReadsSpec)

/-- 'rescindlaw01.NumShows', WHERE WHAT IT READS IS OF BULK AT MOST 1048576: true; the input reads as it did. -/
def numShowsUptoRow : OpenClaim := { program := "ytdnlcbkocnionaarrr", sum := "e4b62e5c2f00381f782f6d31d1142f64b98c1204bb419618e6c395e0f9f58e2a", func := "rescind/rescindlaw01.NumShows", spec := "numShows", recurses := true, apart := false, narrowed := true }
def NumShowsUptoSaid : Prop := numShowsUptoRow.holds Try.pinned (OpenSpec.upto numShowsSpec)

/-- 'rescindlaw40.LagBounds', WHERE WHAT IT READS IS OF BULK AT MOST 1048576: true; the input reads as it did. -/
def lagBoundsUptoRow : OpenClaim := { program := "ytdnlcbkocnionaarrr", sum := "e4b62e5c2f00381f782f6d31d1142f64b98c1204bb419618e6c395e0f9f58e2a", func := "rescind/rescindlaw40.LagBounds", spec := "lagBounds", unfollowed := true, recurses := true, apart := false, narrowed := true }
def LagBoundsUptoSaid : Prop := lagBoundsUptoRow.holds Try.pinned (OpenSpec.upto lagBoundsSpec)

/-- 'rescindlaw18.EvalParts', WHERE WHAT IT READS IS OF BULK AT MOST 1048576: true; the input reads as it did. -/
def evalPartsUptoRow : OpenClaim := { program := "ytdnlcbkocnionaarrr", sum := "e4b62e5c2f00381f782f6d31d1142f64b98c1204bb419618e6c395e0f9f58e2a", func := "rescind/rescindlaw18.EvalParts", spec := "evalParts", inPlace := ["internal/bytealg.abigen_runtime_cmpstring"], unfollowed := true, recurses := true, apart := false, narrowed := true }
def EvalPartsUptoSaid : Prop := evalPartsUptoRow.holds Try.pinned (OpenSpec.upto evalPartsSpec)

end Rows
end Go.Proofs.YtdnlcbkocnionaaRRR
