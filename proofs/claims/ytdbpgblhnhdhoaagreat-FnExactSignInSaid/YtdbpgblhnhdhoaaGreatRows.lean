/-
  No cell of these rows narrows 'for every input' (looked for: loops, veiled, ifaces, maps, wideKeys, modest, calm, conditions, laid).
  DERIVED. THE GIVEN ROWS OF THIS SEAT. 10 by the template 'for every input the law returns true; each argument reads behind the call as it read before'; 0 by the template 'total and deterministic' (their statements: YtdbpgblhnhdhoaaGreatTotals.lean).
  GIVEN WITH THE SEED: the statements are not yours to turn. If you find one false, say at which input.
  Laid BY PROGRAM, IN A SANDBOX (cutbox-rows.mjs): the forced cells as the released guide's own fill.sh prints them over the translation e1cf66bcb6f724dc… (all of the seat's roots in one cut). By AI agents, Wed Nov 11 2026. No macro, syntax, notation, axiom, sorry.
-/
import Derived.Test.YtdbpgblhnhdhoaaGreatChecked
import GoSem.Claim
import GoSem.ClaimJoined
import GoSem.ClaimMapViews
import Derived.JoinedTies
import Derived.KernelRfl
namespace Go.Proofs.YtdbpgblhnhdhoaaGreat
/- THE CELL 'sum', in the pinned program and in every row, IS THE sha256 OF THE DUMP (.gsa) THAT YtdbpgblhnhdhoaaGreatProg.lean LOADS. Nothing in Lean hashes anything: it is a label: what it is worth is what the hold of that sum in a sandbox is worth. -/
noncomputable def Tryz.pinned : Pinned := { name := "ytdbpgblhnhdhoaagreat", sum := "e1cf66bcb6f724dc7ac823fe03adf484f0ae584b1f6daeade323676aa4a92d72", checked := Tryz.checked }
namespace Rows
def none {H : Type} : Left H := { results := [], args := [] }

/-- 'laws.FnExactAmbientAt': WHATEVER THE INPUT: true; the input reads as it did. -/
def fnExactAmbientAtSpec : ChangeSpec := { name := "fnExactAmbientAt", fn := fun _ => fun
  | [d1, d2, d3, d4, d5] => { results := [.lit (.bool true)], args := [d1, d2, d3, d4, d5] }
  | _ => none }
def fnExactAmbientAtRow : OpenClaim := { program := "ytdbpgblhnhdhoaagreat", sum := "e1cf66bcb6f724dc7ac823fe03adf484f0ae584b1f6daeade323676aa4a92d72", func := "loop.example/g01193/laws.FnExactAmbientAt", spec := "fnExactAmbientAt", inPlace := ["math.Float64frombits", "math.RoundToEven", "math.sqrt", "math.Float64bits", "math.archTrunc"], unfollowed := true, recurses := true, apart := false }
def FnExactAmbientAtSaid : Prop := fnExactAmbientAtRow.holds Tryz.pinned (OpenSpec.ofChange fnExactAmbientAtSpec)

/-- ITS FALSE NEIGHBOUR: 'it returns false'. Refute it at one input. -/
def fnExactAmbientAtWrong : ChangeSpec := { name := "fnExactAmbientAt", fn := fun _ => fun
  | [d1, d2, d3, d4, d5] => { results := [.lit (.bool false)], args := [d1, d2, d3, d4, d5] }
  | _ => none }
def FnExactAmbientAtWrongFalsely : Prop := fnExactAmbientAtRow.holds Tryz.pinned (OpenSpec.ofChange fnExactAmbientAtWrong)

/-- 'laws.FnExactCrossingAt': WHATEVER THE INPUT: true; the input reads as it did. -/
def fnExactCrossingAtSpec : ChangeSpec := { name := "fnExactCrossingAt", fn := fun _ => fun
  | [d1, d2, d3, d4] => { results := [.lit (.bool true)], args := [d1, d2, d3, d4] }
  | _ => none }
def fnExactCrossingAtRow : OpenClaim := { program := "ytdbpgblhnhdhoaagreat", sum := "e1cf66bcb6f724dc7ac823fe03adf484f0ae584b1f6daeade323676aa4a92d72", func := "loop.example/g01193/laws.FnExactCrossingAt", spec := "fnExactCrossingAt", inPlace := ["math.Float64frombits", "math.RoundToEven", "math.sqrt", "math.Float64bits", "math.archTrunc"], unfollowed := true, recurses := true, apart := false }
def FnExactCrossingAtSaid : Prop := fnExactCrossingAtRow.holds Tryz.pinned (OpenSpec.ofChange fnExactCrossingAtSpec)

/-- ITS FALSE NEIGHBOUR: 'it returns false'. Refute it at one input. -/
def fnExactCrossingAtWrong : ChangeSpec := { name := "fnExactCrossingAt", fn := fun _ => fun
  | [d1, d2, d3, d4] => { results := [.lit (.bool false)], args := [d1, d2, d3, d4] }
  | _ => none }
def FnExactCrossingAtWrongFalsely : Prop := fnExactCrossingAtRow.holds Tryz.pinned (OpenSpec.ofChange fnExactCrossingAtWrong)

/-- 'laws.FnExactContactsOf': WHATEVER THE INPUT: true; the input reads as it did. -/
def fnExactContactsOfSpec : ChangeSpec := { name := "fnExactContactsOf", fn := fun _ => fun
  | [d1, d2, d3] => { results := [.lit (.bool true)], args := [d1, d2, d3] }
  | _ => none }
def fnExactContactsOfRow : OpenClaim := { program := "ytdbpgblhnhdhoaagreat", sum := "e1cf66bcb6f724dc7ac823fe03adf484f0ae584b1f6daeade323676aa4a92d72", func := "loop.example/g01193/laws.FnExactContactsOf", spec := "fnExactContactsOf", inPlace := ["math.Float64frombits", "math.RoundToEven", "math.sqrt", "math.Float64bits", "math.archTrunc"], unfollowed := true, recurses := true, apart := false }
def FnExactContactsOfSaid : Prop := fnExactContactsOfRow.holds Tryz.pinned (OpenSpec.ofChange fnExactContactsOfSpec)

/-- ITS FALSE NEIGHBOUR: 'it returns false'. Refute it at one input. -/
def fnExactContactsOfWrong : ChangeSpec := { name := "fnExactContactsOf", fn := fun _ => fun
  | [d1, d2, d3] => { results := [.lit (.bool false)], args := [d1, d2, d3] }
  | _ => none }
def FnExactContactsOfWrongFalsely : Prop := fnExactContactsOfRow.holds Tryz.pinned (OpenSpec.ofChange fnExactContactsOfWrong)

/-- 'laws.FnExactInShadow': WHATEVER THE INPUT: true; the input reads as it did. -/
def fnExactInShadowSpec : ChangeSpec := { name := "fnExactInShadow", fn := fun _ => fun
  | [d1, d2, d3, d4, d5] => { results := [.lit (.bool true)], args := [d1, d2, d3, d4, d5] }
  | _ => none }
def fnExactInShadowRow : OpenClaim := { program := "ytdbpgblhnhdhoaagreat", sum := "e1cf66bcb6f724dc7ac823fe03adf484f0ae584b1f6daeade323676aa4a92d72", func := "loop.example/g01193/laws.FnExactInShadow", spec := "fnExactInShadow", inPlace := ["math.sqrt", "math.Float64frombits", "math.RoundToEven", "math.Float64bits", "math.archTrunc"], unfollowed := true, recurses := true, apart := false }
def FnExactInShadowSaid : Prop := fnExactInShadowRow.holds Tryz.pinned (OpenSpec.ofChange fnExactInShadowSpec)

/-- ITS FALSE NEIGHBOUR: 'it returns false'. Refute it at one input. -/
def fnExactInShadowWrong : ChangeSpec := { name := "fnExactInShadow", fn := fun _ => fun
  | [d1, d2, d3, d4, d5] => { results := [.lit (.bool false)], args := [d1, d2, d3, d4, d5] }
  | _ => none }
def FnExactInShadowWrongFalsely : Prop := fnExactInShadowRow.holds Tryz.pinned (OpenSpec.ofChange fnExactInShadowWrong)

/-- 'laws.FnExactMarchRay': WHATEVER THE INPUT: true; the input reads as it did. -/
def fnExactMarchRaySpec : ChangeSpec := { name := "fnExactMarchRay", fn := fun _ => fun
  | [d1, d2, d3] => { results := [.lit (.bool true)], args := [d1, d2, d3] }
  | _ => none }
def fnExactMarchRayRow : OpenClaim := { program := "ytdbpgblhnhdhoaagreat", sum := "e1cf66bcb6f724dc7ac823fe03adf484f0ae584b1f6daeade323676aa4a92d72", func := "loop.example/g01193/laws.FnExactMarchRay", spec := "fnExactMarchRay", inPlace := ["math.sqrt", "math.Float64frombits", "math.RoundToEven", "math.Float64bits", "math.archTrunc"], unfollowed := true, recurses := true, apart := false }
def FnExactMarchRaySaid : Prop := fnExactMarchRayRow.holds Tryz.pinned (OpenSpec.ofChange fnExactMarchRaySpec)

/-- ITS FALSE NEIGHBOUR: 'it returns false'. Refute it at one input. -/
def fnExactMarchRayWrong : ChangeSpec := { name := "fnExactMarchRay", fn := fun _ => fun
  | [d1, d2, d3] => { results := [.lit (.bool false)], args := [d1, d2, d3] }
  | _ => none }
def FnExactMarchRayWrongFalsely : Prop := fnExactMarchRayRow.holds Tryz.pinned (OpenSpec.ofChange fnExactMarchRayWrong)

/-- 'laws.FnExactRangeIn': WHATEVER THE INPUT: true; the input reads as it did. -/
def fnExactRangeInSpec : ChangeSpec := { name := "fnExactRangeIn", fn := fun _ => fun
  | [d1, d2] => { results := [.lit (.bool true)], args := [d1, d2] }
  | _ => none }
def fnExactRangeInRow : OpenClaim := { program := "ytdbpgblhnhdhoaagreat", sum := "e1cf66bcb6f724dc7ac823fe03adf484f0ae584b1f6daeade323676aa4a92d72", func := "loop.example/g01193/laws.FnExactRangeIn", spec := "fnExactRangeIn", inPlace := ["math.Float64frombits", "math.RoundToEven", "math.sqrt", "math.Float64bits", "math.archTrunc"], unfollowed := true, recurses := true, apart := false }
def FnExactRangeInSaid : Prop := fnExactRangeInRow.holds Tryz.pinned (OpenSpec.ofChange fnExactRangeInSpec)

/-- ITS FALSE NEIGHBOUR: 'it returns false'. Refute it at one input. -/
def fnExactRangeInWrong : ChangeSpec := { name := "fnExactRangeIn", fn := fun _ => fun
  | [d1, d2] => { results := [.lit (.bool false)], args := [d1, d2] }
  | _ => none }
def FnExactRangeInWrongFalsely : Prop := fnExactRangeInRow.holds Tryz.pinned (OpenSpec.ofChange fnExactRangeInWrong)

/-- 'laws.FnExactSignIn': WHATEVER THE INPUT: true; the input reads as it did. -/
def fnExactSignInSpec : ChangeSpec := { name := "fnExactSignIn", fn := fun _ => fun
  | [d1, d2] => { results := [.lit (.bool true)], args := [d1, d2] }
  | _ => none }
def fnExactSignInRow : OpenClaim := { program := "ytdbpgblhnhdhoaagreat", sum := "e1cf66bcb6f724dc7ac823fe03adf484f0ae584b1f6daeade323676aa4a92d72", func := "loop.example/g01193/laws.FnExactSignIn", spec := "fnExactSignIn", inPlace := ["math.Float64frombits", "math.RoundToEven", "math.sqrt", "math.Float64bits", "math.archTrunc"], unfollowed := true, recurses := true, apart := false }
def FnExactSignInSaid : Prop := fnExactSignInRow.holds Tryz.pinned (OpenSpec.ofChange fnExactSignInSpec)

/-- ITS FALSE NEIGHBOUR: 'it returns false'. Refute it at one input. -/
def fnExactSignInWrong : ChangeSpec := { name := "fnExactSignIn", fn := fun _ => fun
  | [d1, d2] => { results := [.lit (.bool false)], args := [d1, d2] }
  | _ => none }
def FnExactSignInWrongFalsely : Prop := fnExactSignInRow.holds Tryz.pinned (OpenSpec.ofChange fnExactSignInWrong)

/-- 'laws.FnExactRangesIn': WHATEVER THE INPUT: true; the input reads as it did. -/
def fnExactRangesInSpec : ChangeSpec := { name := "fnExactRangesIn", fn := fun _ => fun
  | [d1, d2] => { results := [.lit (.bool true)], args := [d1, d2] }
  | _ => none }
def fnExactRangesInRow : OpenClaim := { program := "ytdbpgblhnhdhoaagreat", sum := "e1cf66bcb6f724dc7ac823fe03adf484f0ae584b1f6daeade323676aa4a92d72", func := "loop.example/g01193/laws.FnExactRangesIn", spec := "fnExactRangesIn", inPlace := ["math.Float64frombits", "math.RoundToEven", "math.sqrt", "math.Float64bits", "math.archTrunc"], unfollowed := true, recurses := true, apart := false }
def FnExactRangesInSaid : Prop := fnExactRangesInRow.holds Tryz.pinned (OpenSpec.ofChange fnExactRangesInSpec)

/-- ITS FALSE NEIGHBOUR: 'it returns false'. Refute it at one input. -/
def fnExactRangesInWrong : ChangeSpec := { name := "fnExactRangesIn", fn := fun _ => fun
  | [d1, d2] => { results := [.lit (.bool false)], args := [d1, d2] }
  | _ => none }
def FnExactRangesInWrongFalsely : Prop := fnExactRangesInRow.holds Tryz.pinned (OpenSpec.ofChange fnExactRangesInWrong)

/-- 'laws.FnExactSurfaceBoxes': WHATEVER THE INPUT: true; the input reads as it did. -/
def fnExactSurfaceBoxesSpec : ChangeSpec := { name := "fnExactSurfaceBoxes", fn := fun _ => fun
  | [d1, d2, d3] => { results := [.lit (.bool true)], args := [d1, d2, d3] }
  | _ => none }
def fnExactSurfaceBoxesRow : OpenClaim := { program := "ytdbpgblhnhdhoaagreat", sum := "e1cf66bcb6f724dc7ac823fe03adf484f0ae584b1f6daeade323676aa4a92d72", func := "loop.example/g01193/laws.FnExactSurfaceBoxes", spec := "fnExactSurfaceBoxes", inPlace := ["math.Float64frombits", "math.RoundToEven", "math.sqrt", "math.Float64bits", "math.archTrunc"], unfollowed := true, recurses := true, apart := false }
def FnExactSurfaceBoxesSaid : Prop := fnExactSurfaceBoxesRow.holds Tryz.pinned (OpenSpec.ofChange fnExactSurfaceBoxesSpec)

/-- ITS FALSE NEIGHBOUR: 'it returns false'. Refute it at one input. -/
def fnExactSurfaceBoxesWrong : ChangeSpec := { name := "fnExactSurfaceBoxes", fn := fun _ => fun
  | [d1, d2, d3] => { results := [.lit (.bool false)], args := [d1, d2, d3] }
  | _ => none }
def FnExactSurfaceBoxesWrongFalsely : Prop := fnExactSurfaceBoxesRow.holds Tryz.pinned (OpenSpec.ofChange fnExactSurfaceBoxesWrong)

/-- 'laws.FnExactTouchIn': WHATEVER THE INPUT: true; the input reads as it did. -/
def fnExactTouchInSpec : ChangeSpec := { name := "fnExactTouchIn", fn := fun _ => fun
  | [d1, d2, d3, d4] => { results := [.lit (.bool true)], args := [d1, d2, d3, d4] }
  | _ => none }
def fnExactTouchInRow : OpenClaim := { program := "ytdbpgblhnhdhoaagreat", sum := "e1cf66bcb6f724dc7ac823fe03adf484f0ae584b1f6daeade323676aa4a92d72", func := "loop.example/g01193/laws.FnExactTouchIn", spec := "fnExactTouchIn", inPlace := ["math.Float64frombits", "math.RoundToEven", "math.sqrt", "math.Float64bits", "math.archTrunc"], unfollowed := true, recurses := true, apart := false }
def FnExactTouchInSaid : Prop := fnExactTouchInRow.holds Tryz.pinned (OpenSpec.ofChange fnExactTouchInSpec)

/-- ITS FALSE NEIGHBOUR: 'it returns false'. Refute it at one input. -/
def fnExactTouchInWrong : ChangeSpec := { name := "fnExactTouchIn", fn := fun _ => fun
  | [d1, d2, d3, d4] => { results := [.lit (.bool false)], args := [d1, d2, d3, d4] }
  | _ => none }
def FnExactTouchInWrongFalsely : Prop := fnExactTouchInRow.holds Tryz.pinned (OpenSpec.ofChange fnExactTouchInWrong)

/- THE SECOND FORM. 'bulk': how many values and letters a reading holds, each counted each time it is reached (what is shared counts as often as it is met; a slice's spare places count too). A statement '..UptoSaid' is the law's where the arguments, and the package variables that the reading takes, are together of bulk at most 1048576: NARROWER than '..Said'. Prove '..Said' where nothing that the law and all that it calls make is longer than what came in: it says more and counts as full. Else prove '..UptoSaid'. A law counts once. -/
mutual
def uptoBulk {H : Type} : DataW H → Nat
  | .lit (.string bytes) => bytes.length + 1
  | .lit _ => 1
  | .nil => 1
  | .ptr d => uptoBulk d + 1
  | .slice elems spare => uptoBulkAll elems + uptoBulkAll spare + 1
  | .agg parts => uptoBulkAll parts + 1
  | .iface _ d => uptoBulk d + 1
  | .map entries => uptoBulkEntries entries + 1
  | .held _ => 1
def uptoBulkAll {H : Type} : List (DataW H) → Nat
  | [] => 0
  | d :: r => uptoBulk d + uptoBulkAll r
def uptoBulkEntries {H : Type} : List (Lit × DataW H) → Nat
  | [] => 0
  | x :: r => uptoBulkEntry x + uptoBulkEntries r
def uptoBulkEntry {H : Type} : Lit × DataW H → Nat
  | (.string bytes, d) => bytes.length + uptoBulk d + 1
  | (_, d) => uptoBulk d + 1
 end
def uptoSmall : (H : Type) → List (DataW H) → Bool := fun _ ds => decide (uptoBulkAll ds ≤ 1048576)
def OpenSpec.upto (s : _root_.Go.ChangeSpec) : _root_.Go.OpenSpec := { _root_.Go.OpenSpec.ofChange s with cond := some uptoSmall }

/-- 'laws.FnExactAmbientAt', WHERE WHAT IT READS IS OF BULK AT MOST 1048576: true; the input reads as it did. -/
def fnExactAmbientAtUptoRow : OpenClaim := { program := "ytdbpgblhnhdhoaagreat", sum := "e1cf66bcb6f724dc7ac823fe03adf484f0ae584b1f6daeade323676aa4a92d72", func := "loop.example/g01193/laws.FnExactAmbientAt", spec := "fnExactAmbientAt", inPlace := ["math.Float64frombits", "math.RoundToEven", "math.sqrt", "math.Float64bits", "math.archTrunc"], unfollowed := true, recurses := true, apart := false, narrowed := true }
def FnExactAmbientAtUptoSaid : Prop := fnExactAmbientAtUptoRow.holds Tryz.pinned (OpenSpec.upto fnExactAmbientAtSpec)

/-- 'laws.FnExactCrossingAt', WHERE WHAT IT READS IS OF BULK AT MOST 1048576: true; the input reads as it did. -/
def fnExactCrossingAtUptoRow : OpenClaim := { program := "ytdbpgblhnhdhoaagreat", sum := "e1cf66bcb6f724dc7ac823fe03adf484f0ae584b1f6daeade323676aa4a92d72", func := "loop.example/g01193/laws.FnExactCrossingAt", spec := "fnExactCrossingAt", inPlace := ["math.Float64frombits", "math.RoundToEven", "math.sqrt", "math.Float64bits", "math.archTrunc"], unfollowed := true, recurses := true, apart := false, narrowed := true }
def FnExactCrossingAtUptoSaid : Prop := fnExactCrossingAtUptoRow.holds Tryz.pinned (OpenSpec.upto fnExactCrossingAtSpec)

/-- 'laws.FnExactContactsOf', WHERE WHAT IT READS IS OF BULK AT MOST 1048576: true; the input reads as it did. -/
def fnExactContactsOfUptoRow : OpenClaim := { program := "ytdbpgblhnhdhoaagreat", sum := "e1cf66bcb6f724dc7ac823fe03adf484f0ae584b1f6daeade323676aa4a92d72", func := "loop.example/g01193/laws.FnExactContactsOf", spec := "fnExactContactsOf", inPlace := ["math.Float64frombits", "math.RoundToEven", "math.sqrt", "math.Float64bits", "math.archTrunc"], unfollowed := true, recurses := true, apart := false, narrowed := true }
def FnExactContactsOfUptoSaid : Prop := fnExactContactsOfUptoRow.holds Tryz.pinned (OpenSpec.upto fnExactContactsOfSpec)

/-- 'laws.FnExactInShadow', WHERE WHAT IT READS IS OF BULK AT MOST 1048576: true; the input reads as it did. -/
def fnExactInShadowUptoRow : OpenClaim := { program := "ytdbpgblhnhdhoaagreat", sum := "e1cf66bcb6f724dc7ac823fe03adf484f0ae584b1f6daeade323676aa4a92d72", func := "loop.example/g01193/laws.FnExactInShadow", spec := "fnExactInShadow", inPlace := ["math.sqrt", "math.Float64frombits", "math.RoundToEven", "math.Float64bits", "math.archTrunc"], unfollowed := true, recurses := true, apart := false, narrowed := true }
def FnExactInShadowUptoSaid : Prop := fnExactInShadowUptoRow.holds Tryz.pinned (OpenSpec.upto fnExactInShadowSpec)

/-- 'laws.FnExactMarchRay', WHERE WHAT IT READS IS OF BULK AT MOST 1048576: true; the input reads as it did. -/
def fnExactMarchRayUptoRow : OpenClaim := { program := "ytdbpgblhnhdhoaagreat", sum := "e1cf66bcb6f724dc7ac823fe03adf484f0ae584b1f6daeade323676aa4a92d72", func := "loop.example/g01193/laws.FnExactMarchRay", spec := "fnExactMarchRay", inPlace := ["math.sqrt", "math.Float64frombits", "math.RoundToEven", "math.Float64bits", "math.archTrunc"], unfollowed := true, recurses := true, apart := false, narrowed := true }
def FnExactMarchRayUptoSaid : Prop := fnExactMarchRayUptoRow.holds Tryz.pinned (OpenSpec.upto fnExactMarchRaySpec)

/-- 'laws.FnExactRangeIn', WHERE WHAT IT READS IS OF BULK AT MOST 1048576: true; the input reads as it did. -/
def fnExactRangeInUptoRow : OpenClaim := { program := "ytdbpgblhnhdhoaagreat", sum := "e1cf66bcb6f724dc7ac823fe03adf484f0ae584b1f6daeade323676aa4a92d72", func := "loop.example/g01193/laws.FnExactRangeIn", spec := "fnExactRangeIn", inPlace := ["math.Float64frombits", "math.RoundToEven", "math.sqrt", "math.Float64bits", "math.archTrunc"], unfollowed := true, recurses := true, apart := false, narrowed := true }
def FnExactRangeInUptoSaid : Prop := fnExactRangeInUptoRow.holds Tryz.pinned (OpenSpec.upto fnExactRangeInSpec)

/-- 'laws.FnExactSignIn', WHERE WHAT IT READS IS OF BULK AT MOST 1048576: true; the input reads as it did. -/
def fnExactSignInUptoRow : OpenClaim := { program := "ytdbpgblhnhdhoaagreat", sum := "e1cf66bcb6f724dc7ac823fe03adf484f0ae584b1f6daeade323676aa4a92d72", func := "loop.example/g01193/laws.FnExactSignIn", spec := "fnExactSignIn", inPlace := ["math.Float64frombits", "math.RoundToEven", "math.sqrt", "math.Float64bits", "math.archTrunc"], unfollowed := true, recurses := true, apart := false, narrowed := true }
def FnExactSignInUptoSaid : Prop := fnExactSignInUptoRow.holds Tryz.pinned (OpenSpec.upto fnExactSignInSpec)

/-- 'laws.FnExactRangesIn', WHERE WHAT IT READS IS OF BULK AT MOST 1048576: true; the input reads as it did. -/
def fnExactRangesInUptoRow : OpenClaim := { program := "ytdbpgblhnhdhoaagreat", sum := "e1cf66bcb6f724dc7ac823fe03adf484f0ae584b1f6daeade323676aa4a92d72", func := "loop.example/g01193/laws.FnExactRangesIn", spec := "fnExactRangesIn", inPlace := ["math.Float64frombits", "math.RoundToEven", "math.sqrt", "math.Float64bits", "math.archTrunc"], unfollowed := true, recurses := true, apart := false, narrowed := true }
def FnExactRangesInUptoSaid : Prop := fnExactRangesInUptoRow.holds Tryz.pinned (OpenSpec.upto fnExactRangesInSpec)

/-- 'laws.FnExactSurfaceBoxes', WHERE WHAT IT READS IS OF BULK AT MOST 1048576: true; the input reads as it did. -/
def fnExactSurfaceBoxesUptoRow : OpenClaim := { program := "ytdbpgblhnhdhoaagreat", sum := "e1cf66bcb6f724dc7ac823fe03adf484f0ae584b1f6daeade323676aa4a92d72", func := "loop.example/g01193/laws.FnExactSurfaceBoxes", spec := "fnExactSurfaceBoxes", inPlace := ["math.Float64frombits", "math.RoundToEven", "math.sqrt", "math.Float64bits", "math.archTrunc"], unfollowed := true, recurses := true, apart := false, narrowed := true }
def FnExactSurfaceBoxesUptoSaid : Prop := fnExactSurfaceBoxesUptoRow.holds Tryz.pinned (OpenSpec.upto fnExactSurfaceBoxesSpec)

/-- 'laws.FnExactTouchIn', WHERE WHAT IT READS IS OF BULK AT MOST 1048576: true; the input reads as it did. -/
def fnExactTouchInUptoRow : OpenClaim := { program := "ytdbpgblhnhdhoaagreat", sum := "e1cf66bcb6f724dc7ac823fe03adf484f0ae584b1f6daeade323676aa4a92d72", func := "loop.example/g01193/laws.FnExactTouchIn", spec := "fnExactTouchIn", inPlace := ["math.Float64frombits", "math.RoundToEven", "math.sqrt", "math.Float64bits", "math.archTrunc"], unfollowed := true, recurses := true, apart := false, narrowed := true }
def FnExactTouchInUptoSaid : Prop := fnExactTouchInUptoRow.holds Tryz.pinned (OpenSpec.upto fnExactTouchInSpec)

end Rows
end Go.Proofs.YtdbpgblhnhdhoaaGreat
