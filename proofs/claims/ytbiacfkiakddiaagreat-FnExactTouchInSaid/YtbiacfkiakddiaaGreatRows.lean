/-
  No cell of these rows narrows 'for every input' (looked for: loops, veiled, ifaces, maps, wideKeys, modest, calm, conditions, laid).
  DERIVED. THE GIVEN ROWS OF THIS SEAT. 10 by the template 'for every input the law returns true; each argument reads behind the call as it read before'; 0 by the template 'total and deterministic' (their statements: YtbiacfkiakddiaaGreatTotals.lean).
  GIVEN WITH THE SEED: the statements are not yours to turn. If you find one false, say at which input.
  Laid BY PROGRAM, IN A SANDBOX (cutbox-rows.mjs): the forced cells as the released guide's own fill.sh prints them over the translation cbce64e7ea8f1a8b… (all of the seat's roots in one cut). By AI agents, Wed Nov 11 2026. No macro, syntax, notation, axiom, sorry.
-/
import Derived.Test.YtbiacfkiakddiaaGreatChecked
import GoSem.Claim
import GoSem.ClaimJoined
import GoSem.ClaimMapViews
import Derived.JoinedTies
import Derived.KernelRfl
namespace Go.Proofs.YtbiacfkiakddiaaGreat
/- THE CELL 'sum', in the pinned program and in every row, IS THE sha256 OF THE DUMP (.gsa) THAT YtbiacfkiakddiaaGreatProg.lean LOADS. Nothing in Lean hashes anything: it is a label: what it is worth is what the hold of that sum in a sandbox is worth. -/
noncomputable def Tryz.pinned : Pinned := { name := "ytbiacfkiakddiaagreat", sum := "cbce64e7ea8f1a8b0cc2785c8c9f68ec4bb557a8e11dafbabb567a2c77bfe385", checked := Tryz.checked }
namespace Rows
def none {H : Type} : Left H := { results := [], args := [] }

/-- 'laws.FnExactRangesIn': WHATEVER THE INPUT: true; the input reads as it did. -/
def fnExactRangesInSpec : ChangeSpec := { name := "fnExactRangesIn", fn := fun _ => fun
  | [d1, d2] => { results := [.lit (.bool true)], args := [d1, d2] }
  | _ => none }
def fnExactRangesInRow : OpenClaim := { program := "ytbiacfkiakddiaagreat", sum := "cbce64e7ea8f1a8b0cc2785c8c9f68ec4bb557a8e11dafbabb567a2c77bfe385", func := "loop.example/g01193/laws.FnExactRangesIn", spec := "fnExactRangesIn", inPlace := ["math.Float64frombits", "math.RoundToEven", "math.sqrt", "math.Float64bits", "math.archTrunc"], unfollowed := true, recurses := true, apart := false }
def FnExactRangesInSaid : Prop := fnExactRangesInRow.holds Tryz.pinned (OpenSpec.ofChange fnExactRangesInSpec)

/-- ITS FALSE NEIGHBOUR: 'it returns false'. Refute it at one input. -/
def fnExactRangesInWrong : ChangeSpec := { name := "fnExactRangesIn", fn := fun _ => fun
  | [d1, d2] => { results := [.lit (.bool false)], args := [d1, d2] }
  | _ => none }
def FnExactRangesInWrongFalsely : Prop := fnExactRangesInRow.holds Tryz.pinned (OpenSpec.ofChange fnExactRangesInWrong)

/-- 'laws.FnExactSurfaceBoxes': WHATEVER THE INPUT: true; the input reads as it did. -/
def fnExactSurfaceBoxesSpec : ChangeSpec := { name := "fnExactSurfaceBoxes", fn := fun _ => fun
  | [d1, d2, d3] => { results := [.lit (.bool true)], args := [d1, d2, d3] }
  | _ => none }
def fnExactSurfaceBoxesRow : OpenClaim := { program := "ytbiacfkiakddiaagreat", sum := "cbce64e7ea8f1a8b0cc2785c8c9f68ec4bb557a8e11dafbabb567a2c77bfe385", func := "loop.example/g01193/laws.FnExactSurfaceBoxes", spec := "fnExactSurfaceBoxes", inPlace := ["math.Float64frombits", "math.RoundToEven", "math.sqrt", "math.Float64bits", "math.archTrunc"], unfollowed := true, recurses := true, apart := false }
def FnExactSurfaceBoxesSaid : Prop := fnExactSurfaceBoxesRow.holds Tryz.pinned (OpenSpec.ofChange fnExactSurfaceBoxesSpec)

/-- ITS FALSE NEIGHBOUR: 'it returns false'. Refute it at one input. -/
def fnExactSurfaceBoxesWrong : ChangeSpec := { name := "fnExactSurfaceBoxes", fn := fun _ => fun
  | [d1, d2, d3] => { results := [.lit (.bool false)], args := [d1, d2, d3] }
  | _ => none }
def FnExactSurfaceBoxesWrongFalsely : Prop := fnExactSurfaceBoxesRow.holds Tryz.pinned (OpenSpec.ofChange fnExactSurfaceBoxesWrong)

/-- 'laws.FnExactTouchIn': WHATEVER THE INPUT: true; the input reads as it did. -/
def fnExactTouchInSpec : ChangeSpec := { name := "fnExactTouchIn", fn := fun _ => fun
  | [d1, d2, d3, d4] => { results := [.lit (.bool true)], args := [d1, d2, d3, d4] }
  | _ => none }
def fnExactTouchInRow : OpenClaim := { program := "ytbiacfkiakddiaagreat", sum := "cbce64e7ea8f1a8b0cc2785c8c9f68ec4bb557a8e11dafbabb567a2c77bfe385", func := "loop.example/g01193/laws.FnExactTouchIn", spec := "fnExactTouchIn", inPlace := ["math.Float64frombits", "math.RoundToEven", "math.sqrt", "math.Float64bits", "math.archTrunc"], unfollowed := true, recurses := true, apart := false }
def FnExactTouchInSaid : Prop := fnExactTouchInRow.holds Tryz.pinned (OpenSpec.ofChange fnExactTouchInSpec)

/-- ITS FALSE NEIGHBOUR: 'it returns false'. Refute it at one input. -/
def fnExactTouchInWrong : ChangeSpec := { name := "fnExactTouchIn", fn := fun _ => fun
  | [d1, d2, d3, d4] => { results := [.lit (.bool false)], args := [d1, d2, d3, d4] }
  | _ => none }
def FnExactTouchInWrongFalsely : Prop := fnExactTouchInRow.holds Tryz.pinned (OpenSpec.ofChange fnExactTouchInWrong)

/-- 'laws.FnExactContactsOf': WHATEVER THE INPUT: true; the input reads as it did. -/
def fnExactContactsOfSpec : ChangeSpec := { name := "fnExactContactsOf", fn := fun _ => fun
  | [d1, d2, d3] => { results := [.lit (.bool true)], args := [d1, d2, d3] }
  | _ => none }
def fnExactContactsOfRow : OpenClaim := { program := "ytbiacfkiakddiaagreat", sum := "cbce64e7ea8f1a8b0cc2785c8c9f68ec4bb557a8e11dafbabb567a2c77bfe385", func := "loop.example/g01193/laws.FnExactContactsOf", spec := "fnExactContactsOf", inPlace := ["math.Float64frombits", "math.RoundToEven", "math.sqrt", "math.Float64bits", "math.archTrunc"], unfollowed := true, recurses := true, apart := false }
def FnExactContactsOfSaid : Prop := fnExactContactsOfRow.holds Tryz.pinned (OpenSpec.ofChange fnExactContactsOfSpec)

/-- ITS FALSE NEIGHBOUR: 'it returns false'. Refute it at one input. -/
def fnExactContactsOfWrong : ChangeSpec := { name := "fnExactContactsOf", fn := fun _ => fun
  | [d1, d2, d3] => { results := [.lit (.bool false)], args := [d1, d2, d3] }
  | _ => none }
def FnExactContactsOfWrongFalsely : Prop := fnExactContactsOfRow.holds Tryz.pinned (OpenSpec.ofChange fnExactContactsOfWrong)

/-- 'laws.FnExactSimplifyIn': WHATEVER THE INPUT: true; the input reads as it did. -/
def fnExactSimplifyInSpec : ChangeSpec := { name := "fnExactSimplifyIn", fn := fun _ => fun
  | [d1, d2] => { results := [.lit (.bool true)], args := [d1, d2] }
  | _ => none }
def fnExactSimplifyInRow : OpenClaim := { program := "ytbiacfkiakddiaagreat", sum := "cbce64e7ea8f1a8b0cc2785c8c9f68ec4bb557a8e11dafbabb567a2c77bfe385", func := "loop.example/g01193/laws.FnExactSimplifyIn", spec := "fnExactSimplifyIn", inPlace := ["math.Float64frombits", "math.RoundToEven", "math.sqrt", "math.Float64bits", "math.archTrunc"], unfollowed := true, recurses := true, apart := false }
def FnExactSimplifyInSaid : Prop := fnExactSimplifyInRow.holds Tryz.pinned (OpenSpec.ofChange fnExactSimplifyInSpec)

/-- ITS FALSE NEIGHBOUR: 'it returns false'. Refute it at one input. -/
def fnExactSimplifyInWrong : ChangeSpec := { name := "fnExactSimplifyIn", fn := fun _ => fun
  | [d1, d2] => { results := [.lit (.bool false)], args := [d1, d2] }
  | _ => none }
def FnExactSimplifyInWrongFalsely : Prop := fnExactSimplifyInRow.holds Tryz.pinned (OpenSpec.ofChange fnExactSimplifyInWrong)

/-- 'laws.FnExactShadeAt': WHATEVER THE INPUT: true; the input reads as it did. -/
def fnExactShadeAtSpec : ChangeSpec := { name := "fnExactShadeAt", fn := fun _ => fun
  | [d1, d2, d3] => { results := [.lit (.bool true)], args := [d1, d2, d3] }
  | _ => none }
def fnExactShadeAtRow : OpenClaim := { program := "ytbiacfkiakddiaagreat", sum := "cbce64e7ea8f1a8b0cc2785c8c9f68ec4bb557a8e11dafbabb567a2c77bfe385", func := "loop.example/g01193/laws.FnExactShadeAt", spec := "fnExactShadeAt", inPlace := ["math.sqrt", "math.Float64frombits", "math.RoundToEven", "math.Float64bits", "math.archTrunc"], unfollowed := true, recurses := true, apart := false }
def FnExactShadeAtSaid : Prop := fnExactShadeAtRow.holds Tryz.pinned (OpenSpec.ofChange fnExactShadeAtSpec)

/-- ITS FALSE NEIGHBOUR: 'it returns false'. Refute it at one input. -/
def fnExactShadeAtWrong : ChangeSpec := { name := "fnExactShadeAt", fn := fun _ => fun
  | [d1, d2, d3] => { results := [.lit (.bool false)], args := [d1, d2, d3] }
  | _ => none }
def FnExactShadeAtWrongFalsely : Prop := fnExactShadeAtRow.holds Tryz.pinned (OpenSpec.ofChange fnExactShadeAtWrong)

/-- 'laws.FnExactRenderView': WHATEVER THE INPUT: true; the input reads as it did. -/
def fnExactRenderViewSpec : ChangeSpec := { name := "fnExactRenderView", fn := fun _ => fun
  | [d] => { results := [.lit (.bool true)], args := [d] }
  | _ => none }
def fnExactRenderViewRow : OpenClaim := { program := "ytbiacfkiakddiaagreat", sum := "cbce64e7ea8f1a8b0cc2785c8c9f68ec4bb557a8e11dafbabb567a2c77bfe385", func := "loop.example/g01193/laws.FnExactRenderView", spec := "fnExactRenderView", inPlace := ["math.sqrt", "math.Float64frombits", "math.RoundToEven", "math.archFloor", "math.Float64bits", "math.archTrunc"], unfollowed := true, recurses := true, apart := false }
def FnExactRenderViewSaid : Prop := fnExactRenderViewRow.holds Tryz.pinned (OpenSpec.ofChange fnExactRenderViewSpec)

/-- ITS FALSE NEIGHBOUR: 'it returns false'. Refute it at one input. -/
def fnExactRenderViewWrong : ChangeSpec := { name := "fnExactRenderView", fn := fun _ => fun
  | [d] => { results := [.lit (.bool false)], args := [d] }
  | _ => none }
def FnExactRenderViewWrongFalsely : Prop := fnExactRenderViewRow.holds Tryz.pinned (OpenSpec.ofChange fnExactRenderViewWrong)

/-- 'laws.FnExactRenderShared': WHATEVER THE INPUT: true; the input reads as it did. -/
def fnExactRenderSharedSpec : ChangeSpec := { name := "fnExactRenderShared", fn := fun _ => fun
  | [d1, d2, d3] => { results := [.lit (.bool true)], args := [d1, d2, d3] }
  | _ => none }
def fnExactRenderSharedRow : OpenClaim := { program := "ytbiacfkiakddiaagreat", sum := "cbce64e7ea8f1a8b0cc2785c8c9f68ec4bb557a8e11dafbabb567a2c77bfe385", func := "loop.example/g01193/laws.FnExactRenderShared", spec := "fnExactRenderShared", inPlace := ["math.sqrt", "math.Float64frombits", "math.RoundToEven", "math.archFloor", "math.Float64bits", "math.archTrunc"], unfollowed := true, recurses := true, apart := false }
def FnExactRenderSharedSaid : Prop := fnExactRenderSharedRow.holds Tryz.pinned (OpenSpec.ofChange fnExactRenderSharedSpec)

/-- ITS FALSE NEIGHBOUR: 'it returns false'. Refute it at one input. -/
def fnExactRenderSharedWrong : ChangeSpec := { name := "fnExactRenderShared", fn := fun _ => fun
  | [d1, d2, d3] => { results := [.lit (.bool false)], args := [d1, d2, d3] }
  | _ => none }
def FnExactRenderSharedWrongFalsely : Prop := fnExactRenderSharedRow.holds Tryz.pinned (OpenSpec.ofChange fnExactRenderSharedWrong)

/-- 'laws.FnExactRenderTile': WHATEVER THE INPUT: true; the input reads as it did. -/
def fnExactRenderTileSpec : ChangeSpec := { name := "fnExactRenderTile", fn := fun _ => fun
  | [d1, d2] => { results := [.lit (.bool true)], args := [d1, d2] }
  | _ => none }
def fnExactRenderTileRow : OpenClaim := { program := "ytbiacfkiakddiaagreat", sum := "cbce64e7ea8f1a8b0cc2785c8c9f68ec4bb557a8e11dafbabb567a2c77bfe385", func := "loop.example/g01193/laws.FnExactRenderTile", spec := "fnExactRenderTile", inPlace := ["math.sqrt", "math.Float64frombits", "math.RoundToEven", "math.archFloor", "math.Float64bits", "math.archTrunc"], unfollowed := true, recurses := true, apart := false }
def FnExactRenderTileSaid : Prop := fnExactRenderTileRow.holds Tryz.pinned (OpenSpec.ofChange fnExactRenderTileSpec)

/-- ITS FALSE NEIGHBOUR: 'it returns false'. Refute it at one input. -/
def fnExactRenderTileWrong : ChangeSpec := { name := "fnExactRenderTile", fn := fun _ => fun
  | [d1, d2] => { results := [.lit (.bool false)], args := [d1, d2] }
  | _ => none }
def FnExactRenderTileWrongFalsely : Prop := fnExactRenderTileRow.holds Tryz.pinned (OpenSpec.ofChange fnExactRenderTileWrong)

/-- 'laws.FnExactTileChecks': WHATEVER THE INPUT: true; the input reads as it did. -/
def fnExactTileChecksSpec : ChangeSpec := { name := "fnExactTileChecks", fn := fun _ => fun
  | [d1, d2] => { results := [.lit (.bool true)], args := [d1, d2] }
  | _ => none }
def fnExactTileChecksRow : OpenClaim := { program := "ytbiacfkiakddiaagreat", sum := "cbce64e7ea8f1a8b0cc2785c8c9f68ec4bb557a8e11dafbabb567a2c77bfe385", func := "loop.example/g01193/laws.FnExactTileChecks", spec := "fnExactTileChecks", inPlace := ["math.sqrt", "math.Float64frombits", "math.RoundToEven", "math.archFloor", "math.Float64bits", "math.archTrunc"], unfollowed := true, recurses := true, apart := false }
def FnExactTileChecksSaid : Prop := fnExactTileChecksRow.holds Tryz.pinned (OpenSpec.ofChange fnExactTileChecksSpec)

/-- ITS FALSE NEIGHBOUR: 'it returns false'. Refute it at one input. -/
def fnExactTileChecksWrong : ChangeSpec := { name := "fnExactTileChecks", fn := fun _ => fun
  | [d1, d2] => { results := [.lit (.bool false)], args := [d1, d2] }
  | _ => none }
def FnExactTileChecksWrongFalsely : Prop := fnExactTileChecksRow.holds Tryz.pinned (OpenSpec.ofChange fnExactTileChecksWrong)

/- THE SECOND FORM. 'bulk': how many values and letters a reading holds, each counted each time it is reached (what is shared counts as often as it is met; a slice's spare places count too). A statement '..UptoSaid' is the law's where the arguments, and the package variables that the reading takes, are together of bulk at most 1048576: NARROWER than '..Said'. Prove '..Said' where nothing that the law and all that it calls make is longer than what came in: it says more and counts as full. Else prove '..UptoSaid'. A law counts once. -/
mutual
def uptoBulk {H : Type} : DataW H → Nat
  | .lit (.string bytes) => bytes.length + 1
  | .lit _ => 1
  | .nil => 1
  | .ptr d => uptoBulk d + 1
  | .slice elems spare => uptoBulkAll elems + uptoBulkAll spare + 1
  | .agg parts => uptoBulkAll parts + 1
  | .iface _ d => uptoBulk d + 1
  | .map entries => uptoBulkEntries entries + 1
  | .held _ => 1
def uptoBulkAll {H : Type} : List (DataW H) → Nat
  | [] => 0
  | d :: r => uptoBulk d + uptoBulkAll r
def uptoBulkEntries {H : Type} : List (Lit × DataW H) → Nat
  | [] => 0
  | x :: r => uptoBulkEntry x + uptoBulkEntries r
def uptoBulkEntry {H : Type} : Lit × DataW H → Nat
  | (.string bytes, d) => bytes.length + uptoBulk d + 1
  | (_, d) => uptoBulk d + 1
 end
def uptoSmall : (H : Type) → List (DataW H) → Bool := fun _ ds => decide (uptoBulkAll ds ≤ 1048576)
def OpenSpec.upto (s : _root_.Go.ChangeSpec) : _root_.Go.OpenSpec := { _root_.Go.OpenSpec.ofChange s with cond := some uptoSmall }

/-- 'laws.FnExactRangesIn', WHERE WHAT IT READS IS OF BULK AT MOST 1048576: true; the input reads as it did. -/
def fnExactRangesInUptoRow : OpenClaim := { program := "ytbiacfkiakddiaagreat", sum := "cbce64e7ea8f1a8b0cc2785c8c9f68ec4bb557a8e11dafbabb567a2c77bfe385", func := "loop.example/g01193/laws.FnExactRangesIn", spec := "fnExactRangesIn", inPlace := ["math.Float64frombits", "math.RoundToEven", "math.sqrt", "math.Float64bits", "math.archTrunc"], unfollowed := true, recurses := true, apart := false, narrowed := true }
def FnExactRangesInUptoSaid : Prop := fnExactRangesInUptoRow.holds Tryz.pinned (OpenSpec.upto fnExactRangesInSpec)

/-- 'laws.FnExactSurfaceBoxes', WHERE WHAT IT READS IS OF BULK AT MOST 1048576: true; the input reads as it did. -/
def fnExactSurfaceBoxesUptoRow : OpenClaim := { program := "ytbiacfkiakddiaagreat", sum := "cbce64e7ea8f1a8b0cc2785c8c9f68ec4bb557a8e11dafbabb567a2c77bfe385", func := "loop.example/g01193/laws.FnExactSurfaceBoxes", spec := "fnExactSurfaceBoxes", inPlace := ["math.Float64frombits", "math.RoundToEven", "math.sqrt", "math.Float64bits", "math.archTrunc"], unfollowed := true, recurses := true, apart := false, narrowed := true }
def FnExactSurfaceBoxesUptoSaid : Prop := fnExactSurfaceBoxesUptoRow.holds Tryz.pinned (OpenSpec.upto fnExactSurfaceBoxesSpec)

/-- 'laws.FnExactTouchIn', WHERE WHAT IT READS IS OF BULK AT MOST 1048576: true; the input reads as it did. -/
def fnExactTouchInUptoRow : OpenClaim := { program := "ytbiacfkiakddiaagreat", sum := "cbce64e7ea8f1a8b0cc2785c8c9f68ec4bb557a8e11dafbabb567a2c77bfe385", func := "loop.example/g01193/laws.FnExactTouchIn", spec := "fnExactTouchIn", inPlace := ["math.Float64frombits", "math.RoundToEven", "math.sqrt", "math.Float64bits", "math.archTrunc"], unfollowed := true, recurses := true, apart := false, narrowed := true }
def FnExactTouchInUptoSaid : Prop := fnExactTouchInUptoRow.holds Tryz.pinned (OpenSpec.upto fnExactTouchInSpec)

/-- 'laws.FnExactContactsOf', WHERE WHAT IT READS IS OF BULK AT MOST 1048576: true; the input reads as it did. -/
def fnExactContactsOfUptoRow : OpenClaim := { program := "ytbiacfkiakddiaagreat", sum := "cbce64e7ea8f1a8b0cc2785c8c9f68ec4bb557a8e11dafbabb567a2c77bfe385", func := "loop.example/g01193/laws.FnExactContactsOf", spec := "fnExactContactsOf", inPlace := ["math.Float64frombits", "math.RoundToEven", "math.sqrt", "math.Float64bits", "math.archTrunc"], unfollowed := true, recurses := true, apart := false, narrowed := true }
def FnExactContactsOfUptoSaid : Prop := fnExactContactsOfUptoRow.holds Tryz.pinned (OpenSpec.upto fnExactContactsOfSpec)

/-- 'laws.FnExactSimplifyIn', WHERE WHAT IT READS IS OF BULK AT MOST 1048576: true; the input reads as it did. -/
def fnExactSimplifyInUptoRow : OpenClaim := { program := "ytbiacfkiakddiaagreat", sum := "cbce64e7ea8f1a8b0cc2785c8c9f68ec4bb557a8e11dafbabb567a2c77bfe385", func := "loop.example/g01193/laws.FnExactSimplifyIn", spec := "fnExactSimplifyIn", inPlace := ["math.Float64frombits", "math.RoundToEven", "math.sqrt", "math.Float64bits", "math.archTrunc"], unfollowed := true, recurses := true, apart := false, narrowed := true }
def FnExactSimplifyInUptoSaid : Prop := fnExactSimplifyInUptoRow.holds Tryz.pinned (OpenSpec.upto fnExactSimplifyInSpec)

/-- 'laws.FnExactShadeAt', WHERE WHAT IT READS IS OF BULK AT MOST 1048576: true; the input reads as it did. -/
def fnExactShadeAtUptoRow : OpenClaim := { program := "ytbiacfkiakddiaagreat", sum := "cbce64e7ea8f1a8b0cc2785c8c9f68ec4bb557a8e11dafbabb567a2c77bfe385", func := "loop.example/g01193/laws.FnExactShadeAt", spec := "fnExactShadeAt", inPlace := ["math.sqrt", "math.Float64frombits", "math.RoundToEven", "math.Float64bits", "math.archTrunc"], unfollowed := true, recurses := true, apart := false, narrowed := true }
def FnExactShadeAtUptoSaid : Prop := fnExactShadeAtUptoRow.holds Tryz.pinned (OpenSpec.upto fnExactShadeAtSpec)

/-- 'laws.FnExactRenderView', WHERE WHAT IT READS IS OF BULK AT MOST 1048576: true; the input reads as it did. -/
def fnExactRenderViewUptoRow : OpenClaim := { program := "ytbiacfkiakddiaagreat", sum := "cbce64e7ea8f1a8b0cc2785c8c9f68ec4bb557a8e11dafbabb567a2c77bfe385", func := "loop.example/g01193/laws.FnExactRenderView", spec := "fnExactRenderView", inPlace := ["math.sqrt", "math.Float64frombits", "math.RoundToEven", "math.archFloor", "math.Float64bits", "math.archTrunc"], unfollowed := true, recurses := true, apart := false, narrowed := true }
def FnExactRenderViewUptoSaid : Prop := fnExactRenderViewUptoRow.holds Tryz.pinned (OpenSpec.upto fnExactRenderViewSpec)

/-- 'laws.FnExactRenderShared', WHERE WHAT IT READS IS OF BULK AT MOST 1048576: true; the input reads as it did. -/
def fnExactRenderSharedUptoRow : OpenClaim := { program := "ytbiacfkiakddiaagreat", sum := "cbce64e7ea8f1a8b0cc2785c8c9f68ec4bb557a8e11dafbabb567a2c77bfe385", func := "loop.example/g01193/laws.FnExactRenderShared", spec := "fnExactRenderShared", inPlace := ["math.sqrt", "math.Float64frombits", "math.RoundToEven", "math.archFloor", "math.Float64bits", "math.archTrunc"], unfollowed := true, recurses := true, apart := false, narrowed := true }
def FnExactRenderSharedUptoSaid : Prop := fnExactRenderSharedUptoRow.holds Tryz.pinned (OpenSpec.upto fnExactRenderSharedSpec)

/-- 'laws.FnExactRenderTile', WHERE WHAT IT READS IS OF BULK AT MOST 1048576: true; the input reads as it did. -/
def fnExactRenderTileUptoRow : OpenClaim := { program := "ytbiacfkiakddiaagreat", sum := "cbce64e7ea8f1a8b0cc2785c8c9f68ec4bb557a8e11dafbabb567a2c77bfe385", func := "loop.example/g01193/laws.FnExactRenderTile", spec := "fnExactRenderTile", inPlace := ["math.sqrt", "math.Float64frombits", "math.RoundToEven", "math.archFloor", "math.Float64bits", "math.archTrunc"], unfollowed := true, recurses := true, apart := false, narrowed := true }
def FnExactRenderTileUptoSaid : Prop := fnExactRenderTileUptoRow.holds Tryz.pinned (OpenSpec.upto fnExactRenderTileSpec)

/-- 'laws.FnExactTileChecks', WHERE WHAT IT READS IS OF BULK AT MOST 1048576: true; the input reads as it did. -/
def fnExactTileChecksUptoRow : OpenClaim := { program := "ytbiacfkiakddiaagreat", sum := "cbce64e7ea8f1a8b0cc2785c8c9f68ec4bb557a8e11dafbabb567a2c77bfe385", func := "loop.example/g01193/laws.FnExactTileChecks", spec := "fnExactTileChecks", inPlace := ["math.sqrt", "math.Float64frombits", "math.RoundToEven", "math.archFloor", "math.Float64bits", "math.archTrunc"], unfollowed := true, recurses := true, apart := false, narrowed := true }
def FnExactTileChecksUptoSaid : Prop := fnExactTileChecksUptoRow.holds Tryz.pinned (OpenSpec.upto fnExactTileChecksSpec)

end Rows
end Go.Proofs.YtbiacfkiakddiaaGreat
