/-
  No cell of these rows narrows 'for every input' (looked for: loops, veiled, ifaces, maps, wideKeys, modest, calm, conditions, laid).
  DERIVED. THE GIVEN ROWS OF THIS SEAT. 10 by the template 'for every input the law returns true; each argument reads behind the call as it read before'; 0 by the template 'total and deterministic' (their statements: YtjiipeidginjnaaTotals.lean).
  GIVEN WITH THE SEED: the statements are not yours to turn. If you find one false, say at which input.
  Laid BY PROGRAM, IN A SANDBOX (cutbox-rows.mjs): the forced cells as the released guide's own fill.sh prints them over the translation eb4298e7c030b0d0… (all of the seat's roots in one cut). By AI agents, Wed Nov 11 2026. No macro, syntax, notation, axiom, sorry.
-/
import Derived.Test.YtjiipeidginjnaaChecked
import GoSem.Claim
import GoSem.ClaimJoined
import GoSem.ClaimMapViews
import Derived.JoinedTies
import Derived.KernelRfl
namespace Go.Proofs.Ytjiipeidginjnaa
/- THE CELL 'sum', in the pinned program and in every row, IS THE sha256 OF THE DUMP (.gsa) THAT YtjiipeidginjnaaProg.lean LOADS. Nothing in Lean hashes anything: it is a label: what it is worth is what the hold of that sum in a sandbox is worth. -/
noncomputable def Try.pinned : Pinned := { name := "ytjiipeidginjnaa", sum := "eb4298e7c030b0d055ba909dc635e9bdb09e49cb92347f96f880dee9bdcfb244", checked := Try.checked }
namespace Rows
def none {H : Type} : Left H := { results := [], args := [] }

/-- 'laws.FnExactFactLines': WHATEVER THE INPUT: true; the input reads as it did. -/
def fnExactFactLinesSpec : ChangeSpec := { name := "fnExactFactLines", fn := fun _ => fun
  | [d] => { results := [.lit (.bool true)], args := [d] }
  | _ => none }
def fnExactFactLinesRow : OpenClaim := { program := "ytjiipeidginjnaa", sum := "eb4298e7c030b0d055ba909dc635e9bdb09e49cb92347f96f880dee9bdcfb244", func := "loop.example/g01985/laws.FnExactFactLines", spec := "fnExactFactLines", apart := false }
def FnExactFactLinesSaid : Prop := fnExactFactLinesRow.holds Try.pinned (OpenSpec.ofChange fnExactFactLinesSpec)

/-- ITS FALSE NEIGHBOUR: 'it returns false'. Refute it at one input. -/
def fnExactFactLinesWrong : ChangeSpec := { name := "fnExactFactLines", fn := fun _ => fun
  | [d] => { results := [.lit (.bool false)], args := [d] }
  | _ => none }
def FnExactFactLinesWrongFalsely : Prop := fnExactFactLinesRow.holds Try.pinned (OpenSpec.ofChange fnExactFactLinesWrong)

/-- 'laws.FnExactPickViews': WHATEVER THE INPUT: true; the input reads as it did. -/
def fnExactPickViewsSpec : ChangeSpec := { name := "fnExactPickViews", fn := fun _ => fun
  | [d1, d2] => { results := [.lit (.bool true)], args := [d1, d2] }
  | _ => none }
def fnExactPickViewsRow : OpenClaim := { program := "ytjiipeidginjnaa", sum := "eb4298e7c030b0d055ba909dc635e9bdb09e49cb92347f96f880dee9bdcfb244", func := "loop.example/g01985/laws.FnExactPickViews", spec := "fnExactPickViews", apart := false }
def FnExactPickViewsSaid : Prop := fnExactPickViewsRow.holds Try.pinned (OpenSpec.ofChange fnExactPickViewsSpec)

/-- ITS FALSE NEIGHBOUR: 'it returns false'. Refute it at one input. -/
def fnExactPickViewsWrong : ChangeSpec := { name := "fnExactPickViews", fn := fun _ => fun
  | [d1, d2] => { results := [.lit (.bool false)], args := [d1, d2] }
  | _ => none }
def FnExactPickViewsWrongFalsely : Prop := fnExactPickViewsRow.holds Try.pinned (OpenSpec.ofChange fnExactPickViewsWrong)

/-- 'laws.FnExactSubtractCounts': WHATEVER THE INPUT: true; the input reads as it did. -/
def fnExactSubtractCountsSpec : ChangeSpec := { name := "fnExactSubtractCounts", fn := fun _ => fun
  | [d1, d2] => { results := [.lit (.bool true)], args := [d1, d2] }
  | _ => none }
def fnExactSubtractCountsRow : OpenClaim := { program := "ytjiipeidginjnaa", sum := "eb4298e7c030b0d055ba909dc635e9bdb09e49cb92347f96f880dee9bdcfb244", func := "loop.example/g01985/laws.FnExactSubtractCounts", spec := "fnExactSubtractCounts", unfollowed := true, recurses := true, apart := false }
def FnExactSubtractCountsSaid : Prop := fnExactSubtractCountsRow.holds Try.pinned (OpenSpec.ofChange fnExactSubtractCountsSpec)

/-- ITS FALSE NEIGHBOUR: 'it returns false'. Refute it at one input. -/
def fnExactSubtractCountsWrong : ChangeSpec := { name := "fnExactSubtractCounts", fn := fun _ => fun
  | [d1, d2] => { results := [.lit (.bool false)], args := [d1, d2] }
  | _ => none }
def FnExactSubtractCountsWrongFalsely : Prop := fnExactSubtractCountsRow.holds Try.pinned (OpenSpec.ofChange fnExactSubtractCountsWrong)

/-- 'laws.FnExactEqualCaches': WHATEVER THE INPUT: true; the input reads as it did. -/
def fnExactEqualCachesSpec : ChangeSpec := { name := "fnExactEqualCaches", fn := fun _ => fun
  | [d1, d2] => { results := [.lit (.bool true)], args := [d1, d2] }
  | _ => none }
def fnExactEqualCachesRow : OpenClaim := { program := "ytjiipeidginjnaa", sum := "eb4298e7c030b0d055ba909dc635e9bdb09e49cb92347f96f880dee9bdcfb244", func := "loop.example/g01985/laws.FnExactEqualCaches", spec := "fnExactEqualCaches", unfollowed := true, recurses := true, apart := false }
def FnExactEqualCachesSaid : Prop := fnExactEqualCachesRow.holds Try.pinned (OpenSpec.ofChange fnExactEqualCachesSpec)

/-- ITS FALSE NEIGHBOUR: 'it returns false'. Refute it at one input. -/
def fnExactEqualCachesWrong : ChangeSpec := { name := "fnExactEqualCaches", fn := fun _ => fun
  | [d1, d2] => { results := [.lit (.bool false)], args := [d1, d2] }
  | _ => none }
def FnExactEqualCachesWrongFalsely : Prop := fnExactEqualCachesRow.holds Try.pinned (OpenSpec.ofChange fnExactEqualCachesWrong)

/-- 'laws.FnExactFormatCertificate': WHATEVER THE INPUT: true; the input reads as it did. -/
def fnExactFormatCertificateSpec : ChangeSpec := { name := "fnExactFormatCertificate", fn := fun _ => fun
  | [d] => { results := [.lit (.bool true)], args := [d] }
  | _ => none }
def fnExactFormatCertificateRow : OpenClaim := { program := "ytjiipeidginjnaa", sum := "eb4298e7c030b0d055ba909dc635e9bdb09e49cb92347f96f880dee9bdcfb244", func := "loop.example/g01985/laws.FnExactFormatCertificate", spec := "fnExactFormatCertificate", apart := false }
def FnExactFormatCertificateSaid : Prop := fnExactFormatCertificateRow.holds Try.pinned (OpenSpec.ofChange fnExactFormatCertificateSpec)

/-- ITS FALSE NEIGHBOUR: 'it returns false'. Refute it at one input. -/
def fnExactFormatCertificateWrong : ChangeSpec := { name := "fnExactFormatCertificate", fn := fun _ => fun
  | [d] => { results := [.lit (.bool false)], args := [d] }
  | _ => none }
def FnExactFormatCertificateWrongFalsely : Prop := fnExactFormatCertificateRow.holds Try.pinned (OpenSpec.ofChange fnExactFormatCertificateWrong)

/-- 'laws.FnExactParseChange': WHATEVER THE INPUT: true; the input reads as it did. -/
def fnExactParseChangeSpec : ChangeSpec := { name := "fnExactParseChange", fn := fun _ => fun
  | [d1, d2] => { results := [.lit (.bool true)], args := [d1, d2] }
  | _ => none }
def fnExactParseChangeRow : OpenClaim := { program := "ytjiipeidginjnaa", sum := "eb4298e7c030b0d055ba909dc635e9bdb09e49cb92347f96f880dee9bdcfb244", func := "loop.example/g01985/laws.FnExactParseChange", spec := "fnExactParseChange", apart := false }
def FnExactParseChangeSaid : Prop := fnExactParseChangeRow.holds Try.pinned (OpenSpec.ofChange fnExactParseChangeSpec)

/-- ITS FALSE NEIGHBOUR: 'it returns false'. Refute it at one input. -/
def fnExactParseChangeWrong : ChangeSpec := { name := "fnExactParseChange", fn := fun _ => fun
  | [d1, d2] => { results := [.lit (.bool false)], args := [d1, d2] }
  | _ => none }
def FnExactParseChangeWrongFalsely : Prop := fnExactParseChangeRow.holds Try.pinned (OpenSpec.ofChange fnExactParseChangeWrong)

/-- 'laws.FnExactAffectedViews': WHATEVER THE INPUT: true; the input reads as it did. -/
def fnExactAffectedViewsSpec : ChangeSpec := { name := "fnExactAffectedViews", fn := fun _ => fun
  | [d1, d2] => { results := [.lit (.bool true)], args := [d1, d2] }
  | _ => none }
def fnExactAffectedViewsRow : OpenClaim := { program := "ytjiipeidginjnaa", sum := "eb4298e7c030b0d055ba909dc635e9bdb09e49cb92347f96f880dee9bdcfb244", func := "loop.example/g01985/laws.FnExactAffectedViews", spec := "fnExactAffectedViews", apart := false }
def FnExactAffectedViewsSaid : Prop := fnExactAffectedViewsRow.holds Try.pinned (OpenSpec.ofChange fnExactAffectedViewsSpec)

/-- ITS FALSE NEIGHBOUR: 'it returns false'. Refute it at one input. -/
def fnExactAffectedViewsWrong : ChangeSpec := { name := "fnExactAffectedViews", fn := fun _ => fun
  | [d1, d2] => { results := [.lit (.bool false)], args := [d1, d2] }
  | _ => none }
def FnExactAffectedViewsWrongFalsely : Prop := fnExactAffectedViewsRow.holds Try.pinned (OpenSpec.ofChange fnExactAffectedViewsWrong)

/-- 'laws.FnExactViewLines': WHATEVER THE INPUT: true; the input reads as it did. -/
def fnExactViewLinesSpec : ChangeSpec := { name := "fnExactViewLines", fn := fun _ => fun
  | [d] => { results := [.lit (.bool true)], args := [d] }
  | _ => none }
def fnExactViewLinesRow : OpenClaim := { program := "ytjiipeidginjnaa", sum := "eb4298e7c030b0d055ba909dc635e9bdb09e49cb92347f96f880dee9bdcfb244", func := "loop.example/g01985/laws.FnExactViewLines", spec := "fnExactViewLines", apart := false }
def FnExactViewLinesSaid : Prop := fnExactViewLinesRow.holds Try.pinned (OpenSpec.ofChange fnExactViewLinesSpec)

/-- ITS FALSE NEIGHBOUR: 'it returns false'. Refute it at one input. -/
def fnExactViewLinesWrong : ChangeSpec := { name := "fnExactViewLines", fn := fun _ => fun
  | [d] => { results := [.lit (.bool false)], args := [d] }
  | _ => none }
def FnExactViewLinesWrongFalsely : Prop := fnExactViewLinesRow.holds Try.pinned (OpenSpec.ofChange fnExactViewLinesWrong)

/-- 'laws.FnExactAddCounts': WHATEVER THE INPUT: true; the input reads as it did. -/
def fnExactAddCountsSpec : ChangeSpec := { name := "fnExactAddCounts", fn := fun _ => fun
  | [d1, d2] => { results := [.lit (.bool true)], args := [d1, d2] }
  | _ => none }
def fnExactAddCountsRow : OpenClaim := { program := "ytjiipeidginjnaa", sum := "eb4298e7c030b0d055ba909dc635e9bdb09e49cb92347f96f880dee9bdcfb244", func := "loop.example/g01985/laws.FnExactAddCounts", spec := "fnExactAddCounts", unfollowed := true, recurses := true, apart := false }
def FnExactAddCountsSaid : Prop := fnExactAddCountsRow.holds Try.pinned (OpenSpec.ofChange fnExactAddCountsSpec)

/-- ITS FALSE NEIGHBOUR: 'it returns false'. Refute it at one input. -/
def fnExactAddCountsWrong : ChangeSpec := { name := "fnExactAddCounts", fn := fun _ => fun
  | [d1, d2] => { results := [.lit (.bool false)], args := [d1, d2] }
  | _ => none }
def FnExactAddCountsWrongFalsely : Prop := fnExactAddCountsRow.holds Try.pinned (OpenSpec.ofChange fnExactAddCountsWrong)

/-- 'laws.FnExactCheckCertificate': WHATEVER THE INPUT: true; the input reads as it did. -/
def fnExactCheckCertificateSpec : ChangeSpec := { name := "fnExactCheckCertificate", fn := fun _ => fun
  | [d1, d2, d3, d4] => { results := [.lit (.bool true)], args := [d1, d2, d3, d4] }
  | _ => none }
def fnExactCheckCertificateRow : OpenClaim := { program := "ytjiipeidginjnaa", sum := "eb4298e7c030b0d055ba909dc635e9bdb09e49cb92347f96f880dee9bdcfb244", func := "loop.example/g01985/laws.FnExactCheckCertificate", spec := "fnExactCheckCertificate", unfollowed := true, recurses := true, apart := false }
def FnExactCheckCertificateSaid : Prop := fnExactCheckCertificateRow.holds Try.pinned (OpenSpec.ofChange fnExactCheckCertificateSpec)

/-- ITS FALSE NEIGHBOUR: 'it returns false'. Refute it at one input. -/
def fnExactCheckCertificateWrong : ChangeSpec := { name := "fnExactCheckCertificate", fn := fun _ => fun
  | [d1, d2, d3, d4] => { results := [.lit (.bool false)], args := [d1, d2, d3, d4] }
  | _ => none }
def FnExactCheckCertificateWrongFalsely : Prop := fnExactCheckCertificateRow.holds Try.pinned (OpenSpec.ofChange fnExactCheckCertificateWrong)

/- THE SECOND FORM. 'bulk': how many values and letters a reading holds, each counted each time it is reached (what is shared counts as often as it is met; a slice's spare places count too). A statement '..UptoSaid' is the law's where the arguments, and the package variables that the reading takes, are together of bulk at most 1048576: NARROWER than '..Said'. Prove '..Said' where nothing that the law and all that it calls make is longer than what came in: it says more and counts as full. Else prove '..UptoSaid'. A law counts once. -/
mutual
def uptoBulk {H : Type} : DataW H → Nat
  | .lit (.string bytes) => bytes.length + 1
  | .lit _ => 1
  | .nil => 1
  | .ptr d => uptoBulk d + 1
  | .slice elems spare => uptoBulkAll elems + uptoBulkAll spare + 1
  | .agg parts => uptoBulkAll parts + 1
  | .iface _ d => uptoBulk d + 1
  | .map entries => uptoBulkEntries entries + 1
  | .held _ => 1
def uptoBulkAll {H : Type} : List (DataW H) → Nat
  | [] => 0
  | d :: r => uptoBulk d + uptoBulkAll r
def uptoBulkEntries {H : Type} : List (Lit × DataW H) → Nat
  | [] => 0
  | x :: r => uptoBulkEntry x + uptoBulkEntries r
def uptoBulkEntry {H : Type} : Lit × DataW H → Nat
  | (.string bytes, d) => bytes.length + uptoBulk d + 1
  | (_, d) => uptoBulk d + 1
 end
def uptoSmall : (H : Type) → List (DataW H) → Bool := fun _ ds => decide (uptoBulkAll ds ≤ 1048576)
def OpenSpec.upto (s : _root_.Go.ChangeSpec) : _root_.Go.OpenSpec := { _root_.Go.OpenSpec.ofChange s with cond := some uptoSmall }

/-- 'laws.FnExactFactLines', WHERE WHAT IT READS IS OF BULK AT MOST 1048576: true; the input reads as it did. -/
def fnExactFactLinesUptoRow : OpenClaim := { program := "ytjiipeidginjnaa", sum := "eb4298e7c030b0d055ba909dc635e9bdb09e49cb92347f96f880dee9bdcfb244", func := "loop.example/g01985/laws.FnExactFactLines", spec := "fnExactFactLines", apart := false, narrowed := true }
def FnExactFactLinesUptoSaid : Prop := fnExactFactLinesUptoRow.holds Try.pinned (OpenSpec.upto fnExactFactLinesSpec)

/-- 'laws.FnExactPickViews', WHERE WHAT IT READS IS OF BULK AT MOST 1048576: true; the input reads as it did. -/
def fnExactPickViewsUptoRow : OpenClaim := { program := "ytjiipeidginjnaa", sum := "eb4298e7c030b0d055ba909dc635e9bdb09e49cb92347f96f880dee9bdcfb244", func := "loop.example/g01985/laws.FnExactPickViews", spec := "fnExactPickViews", apart := false, narrowed := true }
def FnExactPickViewsUptoSaid : Prop := fnExactPickViewsUptoRow.holds Try.pinned (OpenSpec.upto fnExactPickViewsSpec)

/-- 'laws.FnExactSubtractCounts', WHERE WHAT IT READS IS OF BULK AT MOST 1048576: true; the input reads as it did. -/
def fnExactSubtractCountsUptoRow : OpenClaim := { program := "ytjiipeidginjnaa", sum := "eb4298e7c030b0d055ba909dc635e9bdb09e49cb92347f96f880dee9bdcfb244", func := "loop.example/g01985/laws.FnExactSubtractCounts", spec := "fnExactSubtractCounts", unfollowed := true, recurses := true, apart := false, narrowed := true }
def FnExactSubtractCountsUptoSaid : Prop := fnExactSubtractCountsUptoRow.holds Try.pinned (OpenSpec.upto fnExactSubtractCountsSpec)

/-- 'laws.FnExactEqualCaches', WHERE WHAT IT READS IS OF BULK AT MOST 1048576: true; the input reads as it did. -/
def fnExactEqualCachesUptoRow : OpenClaim := { program := "ytjiipeidginjnaa", sum := "eb4298e7c030b0d055ba909dc635e9bdb09e49cb92347f96f880dee9bdcfb244", func := "loop.example/g01985/laws.FnExactEqualCaches", spec := "fnExactEqualCaches", unfollowed := true, recurses := true, apart := false, narrowed := true }
def FnExactEqualCachesUptoSaid : Prop := fnExactEqualCachesUptoRow.holds Try.pinned (OpenSpec.upto fnExactEqualCachesSpec)

/-- 'laws.FnExactFormatCertificate', WHERE WHAT IT READS IS OF BULK AT MOST 1048576: true; the input reads as it did. -/
def fnExactFormatCertificateUptoRow : OpenClaim := { program := "ytjiipeidginjnaa", sum := "eb4298e7c030b0d055ba909dc635e9bdb09e49cb92347f96f880dee9bdcfb244", func := "loop.example/g01985/laws.FnExactFormatCertificate", spec := "fnExactFormatCertificate", apart := false, narrowed := true }
def FnExactFormatCertificateUptoSaid : Prop := fnExactFormatCertificateUptoRow.holds Try.pinned (OpenSpec.upto fnExactFormatCertificateSpec)

/-- 'laws.FnExactParseChange', WHERE WHAT IT READS IS OF BULK AT MOST 1048576: true; the input reads as it did. -/
def fnExactParseChangeUptoRow : OpenClaim := { program := "ytjiipeidginjnaa", sum := "eb4298e7c030b0d055ba909dc635e9bdb09e49cb92347f96f880dee9bdcfb244", func := "loop.example/g01985/laws.FnExactParseChange", spec := "fnExactParseChange", apart := false, narrowed := true }
def FnExactParseChangeUptoSaid : Prop := fnExactParseChangeUptoRow.holds Try.pinned (OpenSpec.upto fnExactParseChangeSpec)

/-- 'laws.FnExactAffectedViews', WHERE WHAT IT READS IS OF BULK AT MOST 1048576: true; the input reads as it did. -/
def fnExactAffectedViewsUptoRow : OpenClaim := { program := "ytjiipeidginjnaa", sum := "eb4298e7c030b0d055ba909dc635e9bdb09e49cb92347f96f880dee9bdcfb244", func := "loop.example/g01985/laws.FnExactAffectedViews", spec := "fnExactAffectedViews", apart := false, narrowed := true }
def FnExactAffectedViewsUptoSaid : Prop := fnExactAffectedViewsUptoRow.holds Try.pinned (OpenSpec.upto fnExactAffectedViewsSpec)

/-- 'laws.FnExactViewLines', WHERE WHAT IT READS IS OF BULK AT MOST 1048576: true; the input reads as it did. -/
def fnExactViewLinesUptoRow : OpenClaim := { program := "ytjiipeidginjnaa", sum := "eb4298e7c030b0d055ba909dc635e9bdb09e49cb92347f96f880dee9bdcfb244", func := "loop.example/g01985/laws.FnExactViewLines", spec := "fnExactViewLines", apart := false, narrowed := true }
def FnExactViewLinesUptoSaid : Prop := fnExactViewLinesUptoRow.holds Try.pinned (OpenSpec.upto fnExactViewLinesSpec)

/-- 'laws.FnExactAddCounts', WHERE WHAT IT READS IS OF BULK AT MOST 1048576: true; the input reads as it did. -/
def fnExactAddCountsUptoRow : OpenClaim := { program := "ytjiipeidginjnaa", sum := "eb4298e7c030b0d055ba909dc635e9bdb09e49cb92347f96f880dee9bdcfb244", func := "loop.example/g01985/laws.FnExactAddCounts", spec := "fnExactAddCounts", unfollowed := true, recurses := true, apart := false, narrowed := true }
def FnExactAddCountsUptoSaid : Prop := fnExactAddCountsUptoRow.holds Try.pinned (OpenSpec.upto fnExactAddCountsSpec)

/-- 'laws.FnExactCheckCertificate', WHERE WHAT IT READS IS OF BULK AT MOST 1048576: true; the input reads as it did. -/
def fnExactCheckCertificateUptoRow : OpenClaim := { program := "ytjiipeidginjnaa", sum := "eb4298e7c030b0d055ba909dc635e9bdb09e49cb92347f96f880dee9bdcfb244", func := "loop.example/g01985/laws.FnExactCheckCertificate", spec := "fnExactCheckCertificate", unfollowed := true, recurses := true, apart := false, narrowed := true }
def FnExactCheckCertificateUptoSaid : Prop := fnExactCheckCertificateUptoRow.holds Try.pinned (OpenSpec.upto fnExactCheckCertificateSpec)

end Rows
end Go.Proofs.Ytjiipeidginjnaa
