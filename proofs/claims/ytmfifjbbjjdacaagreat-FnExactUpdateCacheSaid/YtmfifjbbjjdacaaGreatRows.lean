/-
  No cell of these rows narrows 'for every input' (looked for: loops, veiled, ifaces, maps, wideKeys, modest, calm, conditions, laid).
  DERIVED. THE GIVEN ROWS OF THIS SEAT. 9 by the template 'for every input the law returns true; each argument reads behind the call as it read before'; 0 by the template 'total and deterministic' (their statements: YtmfifjbbjjdacaaGreatTotals.lean).
  GIVEN WITH THE SEED: the statements are not yours to turn. If you find one false, say at which input.
  Laid BY PROGRAM, IN A SANDBOX (cutbox-rows.mjs): the forced cells as the released guide's own fill.sh prints them over the translation 52b1e20138dc80a5… (all of the seat's roots in one cut). By AI agents, Wed Nov 11 2026. No macro, syntax, notation, axiom, sorry.
-/
import Derived.Test.YtmfifjbbjjdacaaGreatChecked
import GoSem.Claim
import GoSem.ClaimJoined
import GoSem.ClaimMapViews
import Derived.JoinedTies
import Derived.KernelRfl
namespace Go.Proofs.YtmfifjbbjjdacaaGreat
/- THE CELL 'sum', in the pinned program and in every row, IS THE sha256 OF THE DUMP (.gsa) THAT YtmfifjbbjjdacaaGreatProg.lean LOADS. Nothing in Lean hashes anything: it is a label: what it is worth is what the hold of that sum in a sandbox is worth. -/
noncomputable def Tryz.pinned : Pinned := { name := "ytmfifjbbjjdacaagreat", sum := "52b1e20138dc80a5a5ddcddd0169b0d5f8548e7c540f4c56c98a557048449c25", checked := Tryz.checked }
namespace Rows
def none {H : Type} : Left H := { results := [], args := [] }

/-- 'laws.FnTexts': WHATEVER THE INPUT: true; the input reads as it did. -/
def fnTextsSpec : ChangeSpec := { name := "fnTexts", fn := fun _ => fun
  | [d] => { results := [.lit (.bool true)], args := [d] }
  | _ => none }
def fnTextsRow : OpenClaim := { program := "ytmfifjbbjjdacaagreat", sum := "52b1e20138dc80a5a5ddcddd0169b0d5f8548e7c540f4c56c98a557048449c25", func := "loop.example/g01985/laws.FnTexts", spec := "fnTexts", unfollowed := true, recurses := true, apart := false }
def FnTextsSaid : Prop := fnTextsRow.holds Tryz.pinned (OpenSpec.ofChange fnTextsSpec)

/-- ITS FALSE NEIGHBOUR: 'it returns false'. Refute it at one input. -/
def fnTextsWrong : ChangeSpec := { name := "fnTexts", fn := fun _ => fun
  | [d] => { results := [.lit (.bool false)], args := [d] }
  | _ => none }
def FnTextsWrongFalsely : Prop := fnTextsRow.holds Tryz.pinned (OpenSpec.ofChange fnTextsWrong)

/-- 'laws.FnIndependence': WHATEVER THE INPUT: true; the input reads as it did. -/
def fnIndependenceSpec : ChangeSpec := { name := "fnIndependence", fn := fun _ => fun
  | [d] => { results := [.lit (.bool true)], args := [d] }
  | _ => none }
def fnIndependenceRow : OpenClaim := { program := "ytmfifjbbjjdacaagreat", sum := "52b1e20138dc80a5a5ddcddd0169b0d5f8548e7c540f4c56c98a557048449c25", func := "loop.example/g01985/laws.FnIndependence", spec := "fnIndependence", unfollowed := true, recurses := true, apart := false }
def FnIndependenceSaid : Prop := fnIndependenceRow.holds Tryz.pinned (OpenSpec.ofChange fnIndependenceSpec)

/-- ITS FALSE NEIGHBOUR: 'it returns false'. Refute it at one input. -/
def fnIndependenceWrong : ChangeSpec := { name := "fnIndependence", fn := fun _ => fun
  | [d] => { results := [.lit (.bool false)], args := [d] }
  | _ => none }
def FnIndependenceWrongFalsely : Prop := fnIndependenceRow.holds Tryz.pinned (OpenSpec.ofChange fnIndependenceWrong)

/-- 'laws.FnExactDeltaCounts': WHATEVER THE INPUT: true; the input reads as it did. -/
def fnExactDeltaCountsSpec : ChangeSpec := { name := "fnExactDeltaCounts", fn := fun _ => fun
  | [d1, d2, d3, d4] => { results := [.lit (.bool true)], args := [d1, d2, d3, d4] }
  | _ => none }
def fnExactDeltaCountsRow : OpenClaim := { program := "ytmfifjbbjjdacaagreat", sum := "52b1e20138dc80a5a5ddcddd0169b0d5f8548e7c540f4c56c98a557048449c25", func := "loop.example/g01985/laws.FnExactDeltaCounts", spec := "fnExactDeltaCounts", unfollowed := true, recurses := true, apart := false }
def FnExactDeltaCountsSaid : Prop := fnExactDeltaCountsRow.holds Tryz.pinned (OpenSpec.ofChange fnExactDeltaCountsSpec)

/-- ITS FALSE NEIGHBOUR: 'it returns false'. Refute it at one input. -/
def fnExactDeltaCountsWrong : ChangeSpec := { name := "fnExactDeltaCounts", fn := fun _ => fun
  | [d1, d2, d3, d4] => { results := [.lit (.bool false)], args := [d1, d2, d3, d4] }
  | _ => none }
def FnExactDeltaCountsWrongFalsely : Prop := fnExactDeltaCountsRow.holds Tryz.pinned (OpenSpec.ofChange fnExactDeltaCountsWrong)

/-- 'laws.FnDeltas': WHATEVER THE INPUT: true; the input reads as it did. -/
def fnDeltasSpec : ChangeSpec := { name := "fnDeltas", fn := fun _ => fun
  | [d] => { results := [.lit (.bool true)], args := [d] }
  | _ => none }
def fnDeltasRow : OpenClaim := { program := "ytmfifjbbjjdacaagreat", sum := "52b1e20138dc80a5a5ddcddd0169b0d5f8548e7c540f4c56c98a557048449c25", func := "loop.example/g01985/laws.FnDeltas", spec := "fnDeltas", unfollowed := true, recurses := true, apart := false }
def FnDeltasSaid : Prop := fnDeltasRow.holds Tryz.pinned (OpenSpec.ofChange fnDeltasSpec)

/-- ITS FALSE NEIGHBOUR: 'it returns false'. Refute it at one input. -/
def fnDeltasWrong : ChangeSpec := { name := "fnDeltas", fn := fun _ => fun
  | [d] => { results := [.lit (.bool false)], args := [d] }
  | _ => none }
def FnDeltasWrongFalsely : Prop := fnDeltasRow.holds Tryz.pinned (OpenSpec.ofChange fnDeltasWrong)

/-- 'laws.FnExactBuildCache': WHATEVER THE INPUT: true; the input reads as it did. -/
def fnExactBuildCacheSpec : ChangeSpec := { name := "fnExactBuildCache", fn := fun _ => fun
  | [d1, d2, d3, d4] => { results := [.lit (.bool true)], args := [d1, d2, d3, d4] }
  | _ => none }
def fnExactBuildCacheRow : OpenClaim := { program := "ytmfifjbbjjdacaagreat", sum := "52b1e20138dc80a5a5ddcddd0169b0d5f8548e7c540f4c56c98a557048449c25", func := "loop.example/g01985/laws.FnExactBuildCache", spec := "fnExactBuildCache", unfollowed := true, recurses := true, apart := false }
def FnExactBuildCacheSaid : Prop := fnExactBuildCacheRow.holds Tryz.pinned (OpenSpec.ofChange fnExactBuildCacheSpec)

/-- ITS FALSE NEIGHBOUR: 'it returns false'. Refute it at one input. -/
def fnExactBuildCacheWrong : ChangeSpec := { name := "fnExactBuildCache", fn := fun _ => fun
  | [d1, d2, d3, d4] => { results := [.lit (.bool false)], args := [d1, d2, d3, d4] }
  | _ => none }
def FnExactBuildCacheWrongFalsely : Prop := fnExactBuildCacheRow.holds Tryz.pinned (OpenSpec.ofChange fnExactBuildCacheWrong)

/-- 'laws.FnExactIsFresh': WHATEVER THE INPUT: true; the input reads as it did. -/
def fnExactIsFreshSpec : ChangeSpec := { name := "fnExactIsFresh", fn := fun _ => fun
  | [d1, d2, d3] => { results := [.lit (.bool true)], args := [d1, d2, d3] }
  | _ => none }
def fnExactIsFreshRow : OpenClaim := { program := "ytmfifjbbjjdacaagreat", sum := "52b1e20138dc80a5a5ddcddd0169b0d5f8548e7c540f4c56c98a557048449c25", func := "loop.example/g01985/laws.FnExactIsFresh", spec := "fnExactIsFresh", unfollowed := true, recurses := true, apart := false }
def FnExactIsFreshSaid : Prop := fnExactIsFreshRow.holds Tryz.pinned (OpenSpec.ofChange fnExactIsFreshSpec)

/-- ITS FALSE NEIGHBOUR: 'it returns false'. Refute it at one input. -/
def fnExactIsFreshWrong : ChangeSpec := { name := "fnExactIsFresh", fn := fun _ => fun
  | [d1, d2, d3] => { results := [.lit (.bool false)], args := [d1, d2, d3] }
  | _ => none }
def FnExactIsFreshWrongFalsely : Prop := fnExactIsFreshRow.holds Tryz.pinned (OpenSpec.ofChange fnExactIsFreshWrong)

/-- 'laws.FnUpkeep': WHATEVER THE INPUT: true; the input reads as it did. -/
def fnUpkeepSpec : ChangeSpec := { name := "fnUpkeep", fn := fun _ => fun
  | [d] => { results := [.lit (.bool true)], args := [d] }
  | _ => none }
def fnUpkeepRow : OpenClaim := { program := "ytmfifjbbjjdacaagreat", sum := "52b1e20138dc80a5a5ddcddd0169b0d5f8548e7c540f4c56c98a557048449c25", func := "loop.example/g01985/laws.FnUpkeep", spec := "fnUpkeep", unfollowed := true, recurses := true, apart := false }
def FnUpkeepSaid : Prop := fnUpkeepRow.holds Tryz.pinned (OpenSpec.ofChange fnUpkeepSpec)

/-- ITS FALSE NEIGHBOUR: 'it returns false'. Refute it at one input. -/
def fnUpkeepWrong : ChangeSpec := { name := "fnUpkeep", fn := fun _ => fun
  | [d] => { results := [.lit (.bool false)], args := [d] }
  | _ => none }
def FnUpkeepWrongFalsely : Prop := fnUpkeepRow.holds Tryz.pinned (OpenSpec.ofChange fnUpkeepWrong)

/-- 'laws.FnExactUpdateCache': WHATEVER THE INPUT: true; the input reads as it did. -/
def fnExactUpdateCacheSpec : ChangeSpec := { name := "fnExactUpdateCache", fn := fun _ => fun
  | [d1, d2, d3, d4] => { results := [.lit (.bool true)], args := [d1, d2, d3, d4] }
  | _ => none }
def fnExactUpdateCacheRow : OpenClaim := { program := "ytmfifjbbjjdacaagreat", sum := "52b1e20138dc80a5a5ddcddd0169b0d5f8548e7c540f4c56c98a557048449c25", func := "loop.example/g01985/laws.FnExactUpdateCache", spec := "fnExactUpdateCache", unfollowed := true, recurses := true, apart := false }
def FnExactUpdateCacheSaid : Prop := fnExactUpdateCacheRow.holds Tryz.pinned (OpenSpec.ofChange fnExactUpdateCacheSpec)

/-- ITS FALSE NEIGHBOUR: 'it returns false'. Refute it at one input. -/
def fnExactUpdateCacheWrong : ChangeSpec := { name := "fnExactUpdateCache", fn := fun _ => fun
  | [d1, d2, d3, d4] => { results := [.lit (.bool false)], args := [d1, d2, d3, d4] }
  | _ => none }
def FnExactUpdateCacheWrongFalsely : Prop := fnExactUpdateCacheRow.holds Tryz.pinned (OpenSpec.ofChange fnExactUpdateCacheWrong)

/-- 'laws.FnExactEquivalentRewriting': WHATEVER THE INPUT: true; the input reads as it did. -/
def fnExactEquivalentRewritingSpec : ChangeSpec := { name := "fnExactEquivalentRewriting", fn := fun _ => fun
  | [d1, d2, d3] => { results := [.lit (.bool true)], args := [d1, d2, d3] }
  | _ => none }
def fnExactEquivalentRewritingRow : OpenClaim := { program := "ytmfifjbbjjdacaagreat", sum := "52b1e20138dc80a5a5ddcddd0169b0d5f8548e7c540f4c56c98a557048449c25", func := "loop.example/g01985/laws.FnExactEquivalentRewriting", spec := "fnExactEquivalentRewriting", unfollowed := true, recurses := true, apart := false }
def FnExactEquivalentRewritingSaid : Prop := fnExactEquivalentRewritingRow.holds Tryz.pinned (OpenSpec.ofChange fnExactEquivalentRewritingSpec)

/-- ITS FALSE NEIGHBOUR: 'it returns false'. Refute it at one input. -/
def fnExactEquivalentRewritingWrong : ChangeSpec := { name := "fnExactEquivalentRewriting", fn := fun _ => fun
  | [d1, d2, d3] => { results := [.lit (.bool false)], args := [d1, d2, d3] }
  | _ => none }
def FnExactEquivalentRewritingWrongFalsely : Prop := fnExactEquivalentRewritingRow.holds Tryz.pinned (OpenSpec.ofChange fnExactEquivalentRewritingWrong)

/- THE SECOND FORM. 'bulk': how many values and letters a reading holds, each counted each time it is reached (what is shared counts as often as it is met; a slice's spare places count too). A statement '..UptoSaid' is the law's where the arguments, and the package variables that the reading takes, are together of bulk at most 1048576: NARROWER than '..Said'. Prove '..Said' where nothing that the law and all that it calls make is longer than what came in: it says more and counts as full. Else prove '..UptoSaid'. A law counts once. -/
mutual
def uptoBulk {H : Type} : DataW H → Nat
  | .lit (.string bytes) => bytes.length + 1
  | .lit _ => 1
  | .nil => 1
  | .ptr d => uptoBulk d + 1
  | .slice elems spare => uptoBulkAll elems + uptoBulkAll spare + 1
  | .agg parts => uptoBulkAll parts + 1
  | .iface _ d => uptoBulk d + 1
  | .map entries => uptoBulkEntries entries + 1
  | .held _ => 1
def uptoBulkAll {H : Type} : List (DataW H) → Nat
  | [] => 0
  | d :: r => uptoBulk d + uptoBulkAll r
def uptoBulkEntries {H : Type} : List (Lit × DataW H) → Nat
  | [] => 0
  | x :: r => uptoBulkEntry x + uptoBulkEntries r
def uptoBulkEntry {H : Type} : Lit × DataW H → Nat
  | (.string bytes, d) => bytes.length + uptoBulk d + 1
  | (_, d) => uptoBulk d + 1
 end
def uptoSmall : (H : Type) → List (DataW H) → Bool := fun _ ds => decide (uptoBulkAll ds ≤ 1048576)
def OpenSpec.upto (s : _root_.Go.ChangeSpec) : _root_.Go.OpenSpec := { _root_.Go.OpenSpec.ofChange s with cond := some uptoSmall }

/-- 'laws.FnTexts', WHERE WHAT IT READS IS OF BULK AT MOST 1048576: true; the input reads as it did. -/
def fnTextsUptoRow : OpenClaim := { program := "ytmfifjbbjjdacaagreat", sum := "52b1e20138dc80a5a5ddcddd0169b0d5f8548e7c540f4c56c98a557048449c25", func := "loop.example/g01985/laws.FnTexts", spec := "fnTexts", unfollowed := true, recurses := true, apart := false, narrowed := true }
def FnTextsUptoSaid : Prop := fnTextsUptoRow.holds Tryz.pinned (OpenSpec.upto fnTextsSpec)

/-- 'laws.FnIndependence', WHERE WHAT IT READS IS OF BULK AT MOST 1048576: true; the input reads as it did. -/
def fnIndependenceUptoRow : OpenClaim := { program := "ytmfifjbbjjdacaagreat", sum := "52b1e20138dc80a5a5ddcddd0169b0d5f8548e7c540f4c56c98a557048449c25", func := "loop.example/g01985/laws.FnIndependence", spec := "fnIndependence", unfollowed := true, recurses := true, apart := false, narrowed := true }
def FnIndependenceUptoSaid : Prop := fnIndependenceUptoRow.holds Tryz.pinned (OpenSpec.upto fnIndependenceSpec)

/-- 'laws.FnExactDeltaCounts', WHERE WHAT IT READS IS OF BULK AT MOST 1048576: true; the input reads as it did. -/
def fnExactDeltaCountsUptoRow : OpenClaim := { program := "ytmfifjbbjjdacaagreat", sum := "52b1e20138dc80a5a5ddcddd0169b0d5f8548e7c540f4c56c98a557048449c25", func := "loop.example/g01985/laws.FnExactDeltaCounts", spec := "fnExactDeltaCounts", unfollowed := true, recurses := true, apart := false, narrowed := true }
def FnExactDeltaCountsUptoSaid : Prop := fnExactDeltaCountsUptoRow.holds Tryz.pinned (OpenSpec.upto fnExactDeltaCountsSpec)

/-- 'laws.FnDeltas', WHERE WHAT IT READS IS OF BULK AT MOST 1048576: true; the input reads as it did. -/
def fnDeltasUptoRow : OpenClaim := { program := "ytmfifjbbjjdacaagreat", sum := "52b1e20138dc80a5a5ddcddd0169b0d5f8548e7c540f4c56c98a557048449c25", func := "loop.example/g01985/laws.FnDeltas", spec := "fnDeltas", unfollowed := true, recurses := true, apart := false, narrowed := true }
def FnDeltasUptoSaid : Prop := fnDeltasUptoRow.holds Tryz.pinned (OpenSpec.upto fnDeltasSpec)

/-- 'laws.FnExactBuildCache', WHERE WHAT IT READS IS OF BULK AT MOST 1048576: true; the input reads as it did. -/
def fnExactBuildCacheUptoRow : OpenClaim := { program := "ytmfifjbbjjdacaagreat", sum := "52b1e20138dc80a5a5ddcddd0169b0d5f8548e7c540f4c56c98a557048449c25", func := "loop.example/g01985/laws.FnExactBuildCache", spec := "fnExactBuildCache", unfollowed := true, recurses := true, apart := false, narrowed := true }
def FnExactBuildCacheUptoSaid : Prop := fnExactBuildCacheUptoRow.holds Tryz.pinned (OpenSpec.upto fnExactBuildCacheSpec)

/-- 'laws.FnExactIsFresh', WHERE WHAT IT READS IS OF BULK AT MOST 1048576: true; the input reads as it did. -/
def fnExactIsFreshUptoRow : OpenClaim := { program := "ytmfifjbbjjdacaagreat", sum := "52b1e20138dc80a5a5ddcddd0169b0d5f8548e7c540f4c56c98a557048449c25", func := "loop.example/g01985/laws.FnExactIsFresh", spec := "fnExactIsFresh", unfollowed := true, recurses := true, apart := false, narrowed := true }
def FnExactIsFreshUptoSaid : Prop := fnExactIsFreshUptoRow.holds Tryz.pinned (OpenSpec.upto fnExactIsFreshSpec)

/-- 'laws.FnUpkeep', WHERE WHAT IT READS IS OF BULK AT MOST 1048576: true; the input reads as it did. -/
def fnUpkeepUptoRow : OpenClaim := { program := "ytmfifjbbjjdacaagreat", sum := "52b1e20138dc80a5a5ddcddd0169b0d5f8548e7c540f4c56c98a557048449c25", func := "loop.example/g01985/laws.FnUpkeep", spec := "fnUpkeep", unfollowed := true, recurses := true, apart := false, narrowed := true }
def FnUpkeepUptoSaid : Prop := fnUpkeepUptoRow.holds Tryz.pinned (OpenSpec.upto fnUpkeepSpec)

/-- 'laws.FnExactUpdateCache', WHERE WHAT IT READS IS OF BULK AT MOST 1048576: true; the input reads as it did. -/
def fnExactUpdateCacheUptoRow : OpenClaim := { program := "ytmfifjbbjjdacaagreat", sum := "52b1e20138dc80a5a5ddcddd0169b0d5f8548e7c540f4c56c98a557048449c25", func := "loop.example/g01985/laws.FnExactUpdateCache", spec := "fnExactUpdateCache", unfollowed := true, recurses := true, apart := false, narrowed := true }
def FnExactUpdateCacheUptoSaid : Prop := fnExactUpdateCacheUptoRow.holds Tryz.pinned (OpenSpec.upto fnExactUpdateCacheSpec)

/-- 'laws.FnExactEquivalentRewriting', WHERE WHAT IT READS IS OF BULK AT MOST 1048576: true; the input reads as it did. -/
def fnExactEquivalentRewritingUptoRow : OpenClaim := { program := "ytmfifjbbjjdacaagreat", sum := "52b1e20138dc80a5a5ddcddd0169b0d5f8548e7c540f4c56c98a557048449c25", func := "loop.example/g01985/laws.FnExactEquivalentRewriting", spec := "fnExactEquivalentRewriting", unfollowed := true, recurses := true, apart := false, narrowed := true }
def FnExactEquivalentRewritingUptoSaid : Prop := fnExactEquivalentRewritingUptoRow.holds Tryz.pinned (OpenSpec.upto fnExactEquivalentRewritingSpec)

end Rows
end Go.Proofs.YtmfifjbbjjdacaaGreat
