/-
  No cell of these rows narrows 'for every input' (looked for: loops, veiled, ifaces, maps, wideKeys, modest, calm, conditions, laid).
  DERIVED. THE GIVEN ROWS OF THIS SEAT. 13 by the template 'for every input the law returns true; each argument reads behind the call as it read before'; 0 by the template 'total and deterministic' (their statements: YtmkgecapkeojaaaGreatTotals.lean).
  GIVEN WITH THE SEED: the statements are not yours to turn. If you find one false, say at which input.
  Laid BY PROGRAM, IN A SANDBOX (cutbox-rows.mjs): the forced cells as the released guide's own fill.sh prints them over the translation b11e387a4adf6dd9… (all of the seat's roots in one cut). By AI agents, Wed Nov 11 2026. No macro, syntax, notation, axiom, sorry.
-/
import Derived.Test.YtmkgecapkeojaaaGreatChecked
import GoSem.Claim
import GoSem.ClaimJoined
import GoSem.ClaimMapViews
import Derived.JoinedTies
import Derived.KernelRfl
namespace Go.Proofs.YtmkgecapkeojaaaGreat
/- THE CELL 'sum', in the pinned program and in every row, IS THE sha256 OF THE DUMP (.gsa) THAT YtmkgecapkeojaaaGreatProg.lean LOADS. Nothing in Lean hashes anything: it is a label: what it is worth is what the hold of that sum in a sandbox is worth. -/
noncomputable def Tryz.pinned : Pinned := { name := "ytmkgecapkeojaaagreat", sum := "b11e387a4adf6dd987575b7067d812123b76d07cc3f4fc09835846efc43c6378", checked := Tryz.checked }
namespace Rows
def none {H : Type} : Left H := { results := [], args := [] }

/-- 'rescindlaw22.LinearFilters': WHATEVER THE INPUT: true; the input reads as it did. -/
def linearFiltersSpec : ChangeSpec := { name := "linearFilters", fn := fun _ => fun
  | [d1, d2] => { results := [.lit (.bool true)], args := [d1, d2] }
  | _ => none }
def linearFiltersRow : OpenClaim := { program := "ytmkgecapkeojaaagreat", sum := "b11e387a4adf6dd987575b7067d812123b76d07cc3f4fc09835846efc43c6378", func := "rescind/rescindlaw22.LinearFilters", spec := "linearFilters", inPlace := ["internal/bytealg.abigen_runtime_cmpstring"], unfollowed := true, recurses := true, apart := false }
def LinearFiltersSaid : Prop := linearFiltersRow.holds Tryz.pinned (OpenSpec.ofChange linearFiltersSpec)

/-- ITS FALSE NEIGHBOUR: 'it returns false'. Refute it at one input. -/
def linearFiltersWrong : ChangeSpec := { name := "linearFilters", fn := fun _ => fun
  | [d1, d2] => { results := [.lit (.bool false)], args := [d1, d2] }
  | _ => none }
def LinearFiltersWrongFalsely : Prop := linearFiltersRow.holds Tryz.pinned (OpenSpec.ofChange linearFiltersWrong)

/-- 'rescindlaw22.LinearProjects': WHATEVER THE INPUT: true; the input reads as it did. -/
def linearProjectsSpec : ChangeSpec := { name := "linearProjects", fn := fun _ => fun
  | [d1, d2] => { results := [.lit (.bool true)], args := [d1, d2] }
  | _ => none }
def linearProjectsRow : OpenClaim := { program := "ytmkgecapkeojaaagreat", sum := "b11e387a4adf6dd987575b7067d812123b76d07cc3f4fc09835846efc43c6378", func := "rescind/rescindlaw22.LinearProjects", spec := "linearProjects", inPlace := ["internal/bytealg.abigen_runtime_cmpstring"], unfollowed := true, recurses := true, apart := false }
def LinearProjectsSaid : Prop := linearProjectsRow.holds Tryz.pinned (OpenSpec.ofChange linearProjectsSpec)

/-- ITS FALSE NEIGHBOUR: 'it returns false'. Refute it at one input. -/
def linearProjectsWrong : ChangeSpec := { name := "linearProjects", fn := fun _ => fun
  | [d1, d2] => { results := [.lit (.bool false)], args := [d1, d2] }
  | _ => none }
def LinearProjectsWrongFalsely : Prop := linearProjectsRow.holds Tryz.pinned (OpenSpec.ofChange linearProjectsWrong)

/-- 'rescindlaw22.LinearTicks': WHATEVER THE INPUT: true; the input reads as it did. -/
def linearTicksSpec : ChangeSpec := { name := "linearTicks", fn := fun _ => fun
  | [d1, d2, d3, d4] => { results := [.lit (.bool true)], args := [d1, d2, d3, d4] }
  | _ => none }
def linearTicksRow : OpenClaim := { program := "ytmkgecapkeojaaagreat", sum := "b11e387a4adf6dd987575b7067d812123b76d07cc3f4fc09835846efc43c6378", func := "rescind/rescindlaw22.LinearTicks", spec := "linearTicks", inPlace := ["internal/bytealg.abigen_runtime_cmpstring"], unfollowed := true, recurses := true, apart := false }
def LinearTicksSaid : Prop := linearTicksRow.holds Tryz.pinned (OpenSpec.ofChange linearTicksSpec)

/-- ITS FALSE NEIGHBOUR: 'it returns false'. Refute it at one input. -/
def linearTicksWrong : ChangeSpec := { name := "linearTicks", fn := fun _ => fun
  | [d1, d2, d3, d4] => { results := [.lit (.bool false)], args := [d1, d2, d3, d4] }
  | _ => none }
def LinearTicksWrongFalsely : Prop := linearTicksRow.holds Tryz.pinned (OpenSpec.ofChange linearTicksWrong)

/-- 'rescindlaw31.JoinPairs': WHATEVER THE INPUT: true; the input reads as it did. -/
def joinPairsSpec : ChangeSpec := { name := "joinPairs", fn := fun _ => fun
  | [d1, d2, d3] => { results := [.lit (.bool true)], args := [d1, d2, d3] }
  | _ => none }
def joinPairsRow : OpenClaim := { program := "ytmkgecapkeojaaagreat", sum := "b11e387a4adf6dd987575b7067d812123b76d07cc3f4fc09835846efc43c6378", func := "rescind/rescindlaw31.JoinPairs", spec := "joinPairs", inPlace := ["internal/bytealg.abigen_runtime_cmpstring"], unfollowed := true, recurses := true, apart := false }
def JoinPairsSaid : Prop := joinPairsRow.holds Tryz.pinned (OpenSpec.ofChange joinPairsSpec)

/-- ITS FALSE NEIGHBOUR: 'it returns false'. Refute it at one input. -/
def joinPairsWrong : ChangeSpec := { name := "joinPairs", fn := fun _ => fun
  | [d1, d2, d3] => { results := [.lit (.bool false)], args := [d1, d2, d3] }
  | _ => none }
def JoinPairsWrongFalsely : Prop := joinPairsRow.holds Tryz.pinned (OpenSpec.ofChange joinPairsWrong)

/-- 'rescindlaw31.JoinTicks': WHATEVER THE INPUT: true; the input reads as it did. -/
def joinTicksSpec : ChangeSpec := { name := "joinTicks", fn := fun _ => fun
  | [d1, d2, d3, d4] => { results := [.lit (.bool true)], args := [d1, d2, d3, d4] }
  | _ => none }
def joinTicksRow : OpenClaim := { program := "ytmkgecapkeojaaagreat", sum := "b11e387a4adf6dd987575b7067d812123b76d07cc3f4fc09835846efc43c6378", func := "rescind/rescindlaw31.JoinTicks", spec := "joinTicks", inPlace := ["internal/bytealg.abigen_runtime_cmpstring"], unfollowed := true, recurses := true, apart := false }
def JoinTicksSaid : Prop := joinTicksRow.holds Tryz.pinned (OpenSpec.ofChange joinTicksSpec)

/-- ITS FALSE NEIGHBOUR: 'it returns false'. Refute it at one input. -/
def joinTicksWrong : ChangeSpec := { name := "joinTicks", fn := fun _ => fun
  | [d1, d2, d3, d4] => { results := [.lit (.bool false)], args := [d1, d2, d3, d4] }
  | _ => none }
def JoinTicksWrongFalsely : Prop := joinTicksRow.holds Tryz.pinned (OpenSpec.ofChange joinTicksWrong)

/-- 'rescindlaw22.LinearSums': WHATEVER THE INPUT: true; the input reads as it did. -/
def linearSumsSpec : ChangeSpec := { name := "linearSums", fn := fun _ => fun
  | [d1, d2, d3, d4] => { results := [.lit (.bool true)], args := [d1, d2, d3, d4] }
  | _ => none }
def linearSumsRow : OpenClaim := { program := "ytmkgecapkeojaaagreat", sum := "b11e387a4adf6dd987575b7067d812123b76d07cc3f4fc09835846efc43c6378", func := "rescind/rescindlaw22.LinearSums", spec := "linearSums", inPlace := ["internal/bytealg.abigen_runtime_cmpstring"], unfollowed := true, recurses := true, apart := false }
def LinearSumsSaid : Prop := linearSumsRow.holds Tryz.pinned (OpenSpec.ofChange linearSumsSpec)

/-- ITS FALSE NEIGHBOUR: 'it returns false'. Refute it at one input. -/
def linearSumsWrong : ChangeSpec := { name := "linearSums", fn := fun _ => fun
  | [d1, d2, d3, d4] => { results := [.lit (.bool false)], args := [d1, d2, d3, d4] }
  | _ => none }
def LinearSumsWrongFalsely : Prop := linearSumsRow.holds Tryz.pinned (OpenSpec.ofChange linearSumsWrong)

/-- 'rescindlaw22.LinearPicks': WHATEVER THE INPUT: true; the input reads as it did. -/
def linearPicksSpec : ChangeSpec := { name := "linearPicks", fn := fun _ => fun
  | [d1, d2, d3] => { results := [.lit (.bool true)], args := [d1, d2, d3] }
  | _ => none }
def linearPicksRow : OpenClaim := { program := "ytmkgecapkeojaaagreat", sum := "b11e387a4adf6dd987575b7067d812123b76d07cc3f4fc09835846efc43c6378", func := "rescind/rescindlaw22.LinearPicks", spec := "linearPicks", inPlace := ["internal/bytealg.abigen_runtime_cmpstring"], unfollowed := true, recurses := true, apart := false }
def LinearPicksSaid : Prop := linearPicksRow.holds Tryz.pinned (OpenSpec.ofChange linearPicksSpec)

/-- ITS FALSE NEIGHBOUR: 'it returns false'. Refute it at one input. -/
def linearPicksWrong : ChangeSpec := { name := "linearPicks", fn := fun _ => fun
  | [d1, d2, d3] => { results := [.lit (.bool false)], args := [d1, d2, d3] }
  | _ => none }
def LinearPicksWrongFalsely : Prop := linearPicksRow.holds Tryz.pinned (OpenSpec.ofChange linearPicksWrong)

/-- 'rescindlaw31.JoinAhead': WHATEVER THE INPUT: true; the input reads as it did. -/
def joinAheadSpec : ChangeSpec := { name := "joinAhead", fn := fun _ => fun
  | [d1, d2, d3, d4] => { results := [.lit (.bool true)], args := [d1, d2, d3, d4] }
  | _ => none }
def joinAheadRow : OpenClaim := { program := "ytmkgecapkeojaaagreat", sum := "b11e387a4adf6dd987575b7067d812123b76d07cc3f4fc09835846efc43c6378", func := "rescind/rescindlaw31.JoinAhead", spec := "joinAhead", inPlace := ["internal/bytealg.abigen_runtime_cmpstring"], unfollowed := true, recurses := true, apart := false }
def JoinAheadSaid : Prop := joinAheadRow.holds Tryz.pinned (OpenSpec.ofChange joinAheadSpec)

/-- ITS FALSE NEIGHBOUR: 'it returns false'. Refute it at one input. -/
def joinAheadWrong : ChangeSpec := { name := "joinAhead", fn := fun _ => fun
  | [d1, d2, d3, d4] => { results := [.lit (.bool false)], args := [d1, d2, d3, d4] }
  | _ => none }
def JoinAheadWrongFalsely : Prop := joinAheadRow.holds Tryz.pinned (OpenSpec.ofChange joinAheadWrong)

/-- 'rescindlaw31.JoinSums': WHATEVER THE INPUT: true; the input reads as it did. -/
def joinSumsSpec : ChangeSpec := { name := "joinSums", fn := fun _ => fun
  | [d1, d2, d3, d4] => { results := [.lit (.bool true)], args := [d1, d2, d3, d4] }
  | _ => none }
def joinSumsRow : OpenClaim := { program := "ytmkgecapkeojaaagreat", sum := "b11e387a4adf6dd987575b7067d812123b76d07cc3f4fc09835846efc43c6378", func := "rescind/rescindlaw31.JoinSums", spec := "joinSums", inPlace := ["internal/bytealg.abigen_runtime_cmpstring"], unfollowed := true, recurses := true, apart := false }
def JoinSumsSaid : Prop := joinSumsRow.holds Tryz.pinned (OpenSpec.ofChange joinSumsSpec)

/-- ITS FALSE NEIGHBOUR: 'it returns false'. Refute it at one input. -/
def joinSumsWrong : ChangeSpec := { name := "joinSums", fn := fun _ => fun
  | [d1, d2, d3, d4] => { results := [.lit (.bool false)], args := [d1, d2, d3, d4] }
  | _ => none }
def JoinSumsWrongFalsely : Prop := joinSumsRow.holds Tryz.pinned (OpenSpec.ofChange joinSumsWrong)

/-- 'rescindlaw32.AntiPartners': WHATEVER THE INPUT: true; the input reads as it did. -/
def antiPartnersSpec : ChangeSpec := { name := "antiPartners", fn := fun _ => fun
  | [d1, d2, d3, d4] => { results := [.lit (.bool true)], args := [d1, d2, d3, d4] }
  | _ => none }
def antiPartnersRow : OpenClaim := { program := "ytmkgecapkeojaaagreat", sum := "b11e387a4adf6dd987575b7067d812123b76d07cc3f4fc09835846efc43c6378", func := "rescind/rescindlaw32.AntiPartners", spec := "antiPartners", inPlace := ["internal/bytealg.abigen_runtime_cmpstring"], unfollowed := true, recurses := true, apart := false }
def AntiPartnersSaid : Prop := antiPartnersRow.holds Tryz.pinned (OpenSpec.ofChange antiPartnersSpec)

/-- ITS FALSE NEIGHBOUR: 'it returns false'. Refute it at one input. -/
def antiPartnersWrong : ChangeSpec := { name := "antiPartners", fn := fun _ => fun
  | [d1, d2, d3, d4] => { results := [.lit (.bool false)], args := [d1, d2, d3, d4] }
  | _ => none }
def AntiPartnersWrongFalsely : Prop := antiPartnersRow.holds Tryz.pinned (OpenSpec.ofChange antiPartnersWrong)

/-- 'rescindlaw32.AntiAlone': WHATEVER THE INPUT: true; the input reads as it did. -/
def antiAloneSpec : ChangeSpec := { name := "antiAlone", fn := fun _ => fun
  | [d1, d2, d3] => { results := [.lit (.bool true)], args := [d1, d2, d3] }
  | _ => none }
def antiAloneRow : OpenClaim := { program := "ytmkgecapkeojaaagreat", sum := "b11e387a4adf6dd987575b7067d812123b76d07cc3f4fc09835846efc43c6378", func := "rescind/rescindlaw32.AntiAlone", spec := "antiAlone", inPlace := ["internal/bytealg.abigen_runtime_cmpstring"], unfollowed := true, recurses := true, apart := false }
def AntiAloneSaid : Prop := antiAloneRow.holds Tryz.pinned (OpenSpec.ofChange antiAloneSpec)

/-- ITS FALSE NEIGHBOUR: 'it returns false'. Refute it at one input. -/
def antiAloneWrong : ChangeSpec := { name := "antiAlone", fn := fun _ => fun
  | [d1, d2, d3] => { results := [.lit (.bool false)], args := [d1, d2, d3] }
  | _ => none }
def AntiAloneWrongFalsely : Prop := antiAloneRow.holds Tryz.pinned (OpenSpec.ofChange antiAloneWrong)

/-- 'rescindlaw32.AntiTicks': WHATEVER THE INPUT: true; the input reads as it did. -/
def antiTicksSpec : ChangeSpec := { name := "antiTicks", fn := fun _ => fun
  | [d1, d2, d3, d4] => { results := [.lit (.bool true)], args := [d1, d2, d3, d4] }
  | _ => none }
def antiTicksRow : OpenClaim := { program := "ytmkgecapkeojaaagreat", sum := "b11e387a4adf6dd987575b7067d812123b76d07cc3f4fc09835846efc43c6378", func := "rescind/rescindlaw32.AntiTicks", spec := "antiTicks", inPlace := ["internal/bytealg.abigen_runtime_cmpstring"], unfollowed := true, recurses := true, apart := false }
def AntiTicksSaid : Prop := antiTicksRow.holds Tryz.pinned (OpenSpec.ofChange antiTicksSpec)

/-- ITS FALSE NEIGHBOUR: 'it returns false'. Refute it at one input. -/
def antiTicksWrong : ChangeSpec := { name := "antiTicks", fn := fun _ => fun
  | [d1, d2, d3, d4] => { results := [.lit (.bool false)], args := [d1, d2, d3, d4] }
  | _ => none }
def AntiTicksWrongFalsely : Prop := antiTicksRow.holds Tryz.pinned (OpenSpec.ofChange antiTicksWrong)

/-- 'rescindlaw32.AntiAhead': WHATEVER THE INPUT: true; the input reads as it did. -/
def antiAheadSpec : ChangeSpec := { name := "antiAhead", fn := fun _ => fun
  | [d1, d2, d3, d4] => { results := [.lit (.bool true)], args := [d1, d2, d3, d4] }
  | _ => none }
def antiAheadRow : OpenClaim := { program := "ytmkgecapkeojaaagreat", sum := "b11e387a4adf6dd987575b7067d812123b76d07cc3f4fc09835846efc43c6378", func := "rescind/rescindlaw32.AntiAhead", spec := "antiAhead", inPlace := ["internal/bytealg.abigen_runtime_cmpstring"], unfollowed := true, recurses := true, apart := false }
def AntiAheadSaid : Prop := antiAheadRow.holds Tryz.pinned (OpenSpec.ofChange antiAheadSpec)

/-- ITS FALSE NEIGHBOUR: 'it returns false'. Refute it at one input. -/
def antiAheadWrong : ChangeSpec := { name := "antiAhead", fn := fun _ => fun
  | [d1, d2, d3, d4] => { results := [.lit (.bool false)], args := [d1, d2, d3, d4] }
  | _ => none }
def AntiAheadWrongFalsely : Prop := antiAheadRow.holds Tryz.pinned (OpenSpec.ofChange antiAheadWrong)

/- THE SECOND FORM. 'bulk': how many values and letters a reading holds, each counted each time it is reached (what is shared counts as often as it is met; a slice's spare places count too). A statement '..UptoSaid' is the law's where the arguments, and the package variables that the reading takes, are together of bulk at most 1048576: NARROWER than '..Said'. Prove '..Said' where nothing that the law and all that it calls make is longer than what came in: it says more and counts as full. Else prove '..UptoSaid'. A law counts once. -/
mutual
def uptoBulk {H : Type} : DataW H → Nat
  | .lit (.string bytes) => bytes.length + 1
  | .lit _ => 1
  | .nil => 1
  | .ptr d => uptoBulk d + 1
  | .slice elems spare => uptoBulkAll elems + uptoBulkAll spare + 1
  | .agg parts => uptoBulkAll parts + 1
  | .iface _ d => uptoBulk d + 1
  | .map entries => uptoBulkEntries entries + 1
  | .held _ => 1
def uptoBulkAll {H : Type} : List (DataW H) → Nat
  | [] => 0
  | d :: r => uptoBulk d + uptoBulkAll r
def uptoBulkEntries {H : Type} : List (Lit × DataW H) → Nat
  | [] => 0
  | x :: r => uptoBulkEntry x + uptoBulkEntries r
def uptoBulkEntry {H : Type} : Lit × DataW H → Nat
  | (.string bytes, d) => bytes.length + uptoBulk d + 1
  | (_, d) => uptoBulk d + 1
 end
def uptoSmall : (H : Type) → List (DataW H) → Bool := fun _ ds => decide (uptoBulkAll ds ≤ 1048576)
def OpenSpec.upto (s : _root_.Go.ChangeSpec) : _root_.Go.OpenSpec := { _root_.Go.OpenSpec.ofChange s with cond := some uptoSmall }

/-- 'rescindlaw22.LinearFilters', WHERE WHAT IT READS IS OF BULK AT MOST 1048576: true; the input reads as it did. -/
def linearFiltersUptoRow : OpenClaim := { program := "ytmkgecapkeojaaagreat", sum := "b11e387a4adf6dd987575b7067d812123b76d07cc3f4fc09835846efc43c6378", func := "rescind/rescindlaw22.LinearFilters", spec := "linearFilters", inPlace := ["internal/bytealg.abigen_runtime_cmpstring"], unfollowed := true, recurses := true, apart := false, narrowed := true }
def LinearFiltersUptoSaid : Prop := linearFiltersUptoRow.holds Tryz.pinned (OpenSpec.upto linearFiltersSpec)

/-- 'rescindlaw22.LinearProjects', WHERE WHAT IT READS IS OF BULK AT MOST 1048576: true; the input reads as it did. -/
def linearProjectsUptoRow : OpenClaim := { program := "ytmkgecapkeojaaagreat", sum := "b11e387a4adf6dd987575b7067d812123b76d07cc3f4fc09835846efc43c6378", func := "rescind/rescindlaw22.LinearProjects", spec := "linearProjects", inPlace := ["internal/bytealg.abigen_runtime_cmpstring"], unfollowed := true, recurses := true, apart := false, narrowed := true }
def LinearProjectsUptoSaid : Prop := linearProjectsUptoRow.holds Tryz.pinned (OpenSpec.upto linearProjectsSpec)

/-- 'rescindlaw22.LinearTicks', WHERE WHAT IT READS IS OF BULK AT MOST 1048576: true; the input reads as it did. -/
def linearTicksUptoRow : OpenClaim := { program := "ytmkgecapkeojaaagreat", sum := "b11e387a4adf6dd987575b7067d812123b76d07cc3f4fc09835846efc43c6378", func := "rescind/rescindlaw22.LinearTicks", spec := "linearTicks", inPlace := ["internal/bytealg.abigen_runtime_cmpstring"], unfollowed := true, recurses := true, apart := false, narrowed := true }
def LinearTicksUptoSaid : Prop := linearTicksUptoRow.holds Tryz.pinned (OpenSpec.upto linearTicksSpec)

/-- 'rescindlaw31.JoinPairs', WHERE WHAT IT READS IS OF BULK AT MOST 1048576: true; the input reads as it did. -/
def joinPairsUptoRow : OpenClaim := { program := "ytmkgecapkeojaaagreat", sum := "b11e387a4adf6dd987575b7067d812123b76d07cc3f4fc09835846efc43c6378", func := "rescind/rescindlaw31.JoinPairs", spec := "joinPairs", inPlace := ["internal/bytealg.abigen_runtime_cmpstring"], unfollowed := true, recurses := true, apart := false, narrowed := true }
def JoinPairsUptoSaid : Prop := joinPairsUptoRow.holds Tryz.pinned (OpenSpec.upto joinPairsSpec)

/-- 'rescindlaw31.JoinTicks', WHERE WHAT IT READS IS OF BULK AT MOST 1048576: true; the input reads as it did. -/
def joinTicksUptoRow : OpenClaim := { program := "ytmkgecapkeojaaagreat", sum := "b11e387a4adf6dd987575b7067d812123b76d07cc3f4fc09835846efc43c6378", func := "rescind/rescindlaw31.JoinTicks", spec := "joinTicks", inPlace := ["internal/bytealg.abigen_runtime_cmpstring"], unfollowed := true, recurses := true, apart := false, narrowed := true }
def JoinTicksUptoSaid : Prop := joinTicksUptoRow.holds Tryz.pinned (OpenSpec.upto joinTicksSpec)

/-- 'rescindlaw22.LinearSums', WHERE WHAT IT READS IS OF BULK AT MOST 1048576: true; the input reads as it did. -/
def linearSumsUptoRow : OpenClaim := { program := "ytmkgecapkeojaaagreat", sum := "b11e387a4adf6dd987575b7067d812123b76d07cc3f4fc09835846efc43c6378", func := "rescind/rescindlaw22.LinearSums", spec := "linearSums", inPlace := ["internal/bytealg.abigen_runtime_cmpstring"], unfollowed := true, recurses := true, apart := false, narrowed := true }
def LinearSumsUptoSaid : Prop := linearSumsUptoRow.holds Tryz.pinned (OpenSpec.upto linearSumsSpec)

/-- 'rescindlaw22.LinearPicks', WHERE WHAT IT READS IS OF BULK AT MOST 1048576: true; the input reads as it did. -/
def linearPicksUptoRow : OpenClaim := { program := "ytmkgecapkeojaaagreat", sum := "b11e387a4adf6dd987575b7067d812123b76d07cc3f4fc09835846efc43c6378", func := "rescind/rescindlaw22.LinearPicks", spec := "linearPicks", inPlace := ["internal/bytealg.abigen_runtime_cmpstring"], unfollowed := true, recurses := true, apart := false, narrowed := true }
def LinearPicksUptoSaid : Prop := linearPicksUptoRow.holds Tryz.pinned (OpenSpec.upto linearPicksSpec)

/-- 'rescindlaw31.JoinAhead', WHERE WHAT IT READS IS OF BULK AT MOST 1048576: true; the input reads as it did. -/
def joinAheadUptoRow : OpenClaim := { program := "ytmkgecapkeojaaagreat", sum := "b11e387a4adf6dd987575b7067d812123b76d07cc3f4fc09835846efc43c6378", func := "rescind/rescindlaw31.JoinAhead", spec := "joinAhead", inPlace := ["internal/bytealg.abigen_runtime_cmpstring"], unfollowed := true, recurses := true, apart := false, narrowed := true }
def JoinAheadUptoSaid : Prop := joinAheadUptoRow.holds Tryz.pinned (OpenSpec.upto joinAheadSpec)

/-- 'rescindlaw31.JoinSums', WHERE WHAT IT READS IS OF BULK AT MOST 1048576: true; the input reads as it did. -/
def joinSumsUptoRow : OpenClaim := { program := "ytmkgecapkeojaaagreat", sum := "b11e387a4adf6dd987575b7067d812123b76d07cc3f4fc09835846efc43c6378", func := "rescind/rescindlaw31.JoinSums", spec := "joinSums", inPlace := ["internal/bytealg.abigen_runtime_cmpstring"], unfollowed := true, recurses := true, apart := false, narrowed := true }
def JoinSumsUptoSaid : Prop := joinSumsUptoRow.holds Tryz.pinned (OpenSpec.upto joinSumsSpec)

/-- 'rescindlaw32.AntiPartners', WHERE WHAT IT READS IS OF BULK AT MOST 1048576: true; the input reads as it did. -/
def antiPartnersUptoRow : OpenClaim := { program := "ytmkgecapkeojaaagreat", sum := "b11e387a4adf6dd987575b7067d812123b76d07cc3f4fc09835846efc43c6378", func := "rescind/rescindlaw32.AntiPartners", spec := "antiPartners", inPlace := ["internal/bytealg.abigen_runtime_cmpstring"], unfollowed := true, recurses := true, apart := false, narrowed := true }
def AntiPartnersUptoSaid : Prop := antiPartnersUptoRow.holds Tryz.pinned (OpenSpec.upto antiPartnersSpec)

/-- 'rescindlaw32.AntiAlone', WHERE WHAT IT READS IS OF BULK AT MOST 1048576: true; the input reads as it did. -/
def antiAloneUptoRow : OpenClaim := { program := "ytmkgecapkeojaaagreat", sum := "b11e387a4adf6dd987575b7067d812123b76d07cc3f4fc09835846efc43c6378", func := "rescind/rescindlaw32.AntiAlone", spec := "antiAlone", inPlace := ["internal/bytealg.abigen_runtime_cmpstring"], unfollowed := true, recurses := true, apart := false, narrowed := true }
def AntiAloneUptoSaid : Prop := antiAloneUptoRow.holds Tryz.pinned (OpenSpec.upto antiAloneSpec)

/-- 'rescindlaw32.AntiTicks', WHERE WHAT IT READS IS OF BULK AT MOST 1048576: true; the input reads as it did. -/
def antiTicksUptoRow : OpenClaim := { program := "ytmkgecapkeojaaagreat", sum := "b11e387a4adf6dd987575b7067d812123b76d07cc3f4fc09835846efc43c6378", func := "rescind/rescindlaw32.AntiTicks", spec := "antiTicks", inPlace := ["internal/bytealg.abigen_runtime_cmpstring"], unfollowed := true, recurses := true, apart := false, narrowed := true }
def AntiTicksUptoSaid : Prop := antiTicksUptoRow.holds Tryz.pinned (OpenSpec.upto antiTicksSpec)

/-- 'rescindlaw32.AntiAhead', WHERE WHAT IT READS IS OF BULK AT MOST 1048576: true; the input reads as it did. -/
def antiAheadUptoRow : OpenClaim := { program := "ytmkgecapkeojaaagreat", sum := "b11e387a4adf6dd987575b7067d812123b76d07cc3f4fc09835846efc43c6378", func := "rescind/rescindlaw32.AntiAhead", spec := "antiAhead", inPlace := ["internal/bytealg.abigen_runtime_cmpstring"], unfollowed := true, recurses := true, apart := false, narrowed := true }
def AntiAheadUptoSaid : Prop := antiAheadUptoRow.holds Tryz.pinned (OpenSpec.upto antiAheadSpec)

end Rows
end Go.Proofs.YtmkgecapkeojaaaGreat
