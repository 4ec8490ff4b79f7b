/-
  No cell of these rows narrows 'for every input' (looked for: loops, veiled, ifaces, maps, wideKeys, modest, calm, conditions, laid).
  DERIVED. THE GIVEN ROWS OF THIS SEAT. 4 by the template 'for every input the law returns true; each argument reads behind the call as it read before'; 0 by the template 'total and deterministic' (their statements: YtjglknoebaojgaaTotals.lean).
  GIVEN WITH THE SEED: the statements are not yours to turn. If you find one false, say at which input.
  Laid BY PROGRAM, IN A SANDBOX (cutbox-rows.mjs): the forced cells as the released guide's own fill.sh prints them over the translation bac0fc6d97bfed08… (all of the seat's roots in one cut). By AI agents, Wed Nov 11 2026. No macro, syntax, notation, axiom, sorry.
-/
import Derived.Test.YtjglknoebaojgaaChecked
import GoSem.Claim
import GoSem.ClaimJoined
import GoSem.ClaimMapViews
import Derived.JoinedTies
import Derived.KernelRfl
namespace Go.Proofs.Ytjglknoebaojgaa
/- THE CELL 'sum', in the pinned program and in every row, IS THE sha256 OF THE DUMP (.gsa) THAT YtjglknoebaojgaaProg.lean LOADS. Nothing in Lean hashes anything: it is a label: what it is worth is what the hold of that sum in a sandbox is worth. -/
noncomputable def Try.pinned : Pinned := { name := "ytjglknoebaojgaa", sum := "bac0fc6d97bfed08fff8a5a5faedb24bab8e2112c3e36b59299c4d5d5bfbfc58", checked := Try.checked }
namespace Rows
def none {H : Type} : Left H := { results := [], args := [] }

/-- 'laws.FnExactSubtractCounts': WHATEVER THE INPUT: true; the input reads as it did. -/
def fnExactSubtractCountsSpec : ChangeSpec := { name := "fnExactSubtractCounts", fn := fun _ => fun
  | [d1, d2] => { results := [.lit (.bool true)], args := [d1, d2] }
  | _ => none }
def fnExactSubtractCountsRow : OpenClaim := { program := "ytjglknoebaojgaa", sum := "bac0fc6d97bfed08fff8a5a5faedb24bab8e2112c3e36b59299c4d5d5bfbfc58", func := "loop.example/g01985/laws.FnExactSubtractCounts", spec := "fnExactSubtractCounts", unfollowed := true, recurses := true, apart := false }
def FnExactSubtractCountsSaid : Prop := fnExactSubtractCountsRow.holds Try.pinned (OpenSpec.ofChange fnExactSubtractCountsSpec)

/-- ITS FALSE NEIGHBOUR: 'it returns false'. Refute it at one input. -/
def fnExactSubtractCountsWrong : ChangeSpec := { name := "fnExactSubtractCounts", fn := fun _ => fun
  | [d1, d2] => { results := [.lit (.bool false)], args := [d1, d2] }
  | _ => none }
def FnExactSubtractCountsWrongFalsely : Prop := fnExactSubtractCountsRow.holds Try.pinned (OpenSpec.ofChange fnExactSubtractCountsWrong)

/-- 'laws.FnExactAddCounts': WHATEVER THE INPUT: true; the input reads as it did. -/
def fnExactAddCountsSpec : ChangeSpec := { name := "fnExactAddCounts", fn := fun _ => fun
  | [d1, d2] => { results := [.lit (.bool true)], args := [d1, d2] }
  | _ => none }
def fnExactAddCountsRow : OpenClaim := { program := "ytjglknoebaojgaa", sum := "bac0fc6d97bfed08fff8a5a5faedb24bab8e2112c3e36b59299c4d5d5bfbfc58", func := "loop.example/g01985/laws.FnExactAddCounts", spec := "fnExactAddCounts", unfollowed := true, recurses := true, apart := false }
def FnExactAddCountsSaid : Prop := fnExactAddCountsRow.holds Try.pinned (OpenSpec.ofChange fnExactAddCountsSpec)

/-- ITS FALSE NEIGHBOUR: 'it returns false'. Refute it at one input. -/
def fnExactAddCountsWrong : ChangeSpec := { name := "fnExactAddCounts", fn := fun _ => fun
  | [d1, d2] => { results := [.lit (.bool false)], args := [d1, d2] }
  | _ => none }
def FnExactAddCountsWrongFalsely : Prop := fnExactAddCountsRow.holds Try.pinned (OpenSpec.ofChange fnExactAddCountsWrong)

/-- 'laws.FnExactApplyChange': WHATEVER THE INPUT: true; the input reads as it did. -/
def fnExactApplyChangeSpec : ChangeSpec := { name := "fnExactApplyChange", fn := fun _ => fun
  | [d1, d2, d3] => { results := [.lit (.bool true)], args := [d1, d2, d3] }
  | _ => none }
def fnExactApplyChangeRow : OpenClaim := { program := "ytjglknoebaojgaa", sum := "bac0fc6d97bfed08fff8a5a5faedb24bab8e2112c3e36b59299c4d5d5bfbfc58", func := "loop.example/g01985/laws.FnExactApplyChange", spec := "fnExactApplyChange", unfollowed := true, recurses := true, apart := false }
def FnExactApplyChangeSaid : Prop := fnExactApplyChangeRow.holds Try.pinned (OpenSpec.ofChange fnExactApplyChangeSpec)

/-- ITS FALSE NEIGHBOUR: 'it returns false'. Refute it at one input. -/
def fnExactApplyChangeWrong : ChangeSpec := { name := "fnExactApplyChange", fn := fun _ => fun
  | [d1, d2, d3] => { results := [.lit (.bool false)], args := [d1, d2, d3] }
  | _ => none }
def FnExactApplyChangeWrongFalsely : Prop := fnExactApplyChangeRow.holds Try.pinned (OpenSpec.ofChange fnExactApplyChangeWrong)

/-- 'laws.FnExactCheckCertificate': WHATEVER THE INPUT: true; the input reads as it did. -/
def fnExactCheckCertificateSpec : ChangeSpec := { name := "fnExactCheckCertificate", fn := fun _ => fun
  | [d1, d2, d3, d4] => { results := [.lit (.bool true)], args := [d1, d2, d3, d4] }
  | _ => none }
def fnExactCheckCertificateRow : OpenClaim := { program := "ytjglknoebaojgaa", sum := "bac0fc6d97bfed08fff8a5a5faedb24bab8e2112c3e36b59299c4d5d5bfbfc58", func := "loop.example/g01985/laws.FnExactCheckCertificate", spec := "fnExactCheckCertificate", unfollowed := true, recurses := true, apart := false }
def FnExactCheckCertificateSaid : Prop := fnExactCheckCertificateRow.holds Try.pinned (OpenSpec.ofChange fnExactCheckCertificateSpec)

/-- ITS FALSE NEIGHBOUR: 'it returns false'. Refute it at one input. -/
def fnExactCheckCertificateWrong : ChangeSpec := { name := "fnExactCheckCertificate", fn := fun _ => fun
  | [d1, d2, d3, d4] => { results := [.lit (.bool false)], args := [d1, d2, d3, d4] }
  | _ => none }
def FnExactCheckCertificateWrongFalsely : Prop := fnExactCheckCertificateRow.holds Try.pinned (OpenSpec.ofChange fnExactCheckCertificateWrong)

/- THE SECOND FORM. 'bulk': how many values and letters a reading holds, each counted each time it is reached (what is shared counts as often as it is met; a slice's spare places count too). A statement '..UptoSaid' is the law's where the arguments, and the package variables that the reading takes, are together of bulk at most 1048576: NARROWER than '..Said'. Prove '..Said' where nothing that the law and all that it calls make is longer than what came in: it says more and counts as full. Else prove '..UptoSaid'. A law counts once. -/
mutual
def uptoBulk {H : Type} : DataW H → Nat
  | .lit (.string bytes) => bytes.length + 1
  | .lit _ => 1
  | .nil => 1
  | .ptr d => uptoBulk d + 1
  | .slice elems spare => uptoBulkAll elems + uptoBulkAll spare + 1
  | .agg parts => uptoBulkAll parts + 1
  | .iface _ d => uptoBulk d + 1
  | .map entries => uptoBulkEntries entries + 1
  | .held _ => 1
def uptoBulkAll {H : Type} : List (DataW H) → Nat
  | [] => 0
  | d :: r => uptoBulk d + uptoBulkAll r
def uptoBulkEntries {H : Type} : List (Lit × DataW H) → Nat
  | [] => 0
  | x :: r => uptoBulkEntry x + uptoBulkEntries r
def uptoBulkEntry {H : Type} : Lit × DataW H → Nat
  | (.string bytes, d) => bytes.length + uptoBulk d + 1
  | (_, d) => uptoBulk d + 1
 end
def uptoSmall : (H : Type) → List (DataW H) → Bool := fun _ ds => decide (uptoBulkAll ds ≤ 1048576)
def OpenSpec.upto (s : _root_.Go.ChangeSpec) : _root_.Go.OpenSpec := { _root_.Go.OpenSpec.ofChange s with cond := some uptoSmall }

/-- 'laws.FnExactSubtractCounts', WHERE WHAT IT READS IS OF BULK AT MOST 1048576: true; the input reads as it did. -/
def fnExactSubtractCountsUptoRow : OpenClaim := { program := "ytjglknoebaojgaa", sum := "bac0fc6d97bfed08fff8a5a5faedb24bab8e2112c3e36b59299c4d5d5bfbfc58", func := "loop.example/g01985/laws.FnExactSubtractCounts", spec := "fnExactSubtractCounts", unfollowed := true, recurses := true, apart := false, narrowed := true }
def FnExactSubtractCountsUptoSaid : Prop := fnExactSubtractCountsUptoRow.holds Try.pinned (OpenSpec.upto fnExactSubtractCountsSpec)

/-- 'laws.FnExactAddCounts', WHERE WHAT IT READS IS OF BULK AT MOST 1048576: true; the input reads as it did. -/
def fnExactAddCountsUptoRow : OpenClaim := { program := "ytjglknoebaojgaa", sum := "bac0fc6d97bfed08fff8a5a5faedb24bab8e2112c3e36b59299c4d5d5bfbfc58", func := "loop.example/g01985/laws.FnExactAddCounts", spec := "fnExactAddCounts", unfollowed := true, recurses := true, apart := false, narrowed := true }
def FnExactAddCountsUptoSaid : Prop := fnExactAddCountsUptoRow.holds Try.pinned (OpenSpec.upto fnExactAddCountsSpec)

/-- 'laws.FnExactApplyChange', WHERE WHAT IT READS IS OF BULK AT MOST 1048576: true; the input reads as it did. -/
def fnExactApplyChangeUptoRow : OpenClaim := { program := "ytjglknoebaojgaa", sum := "bac0fc6d97bfed08fff8a5a5faedb24bab8e2112c3e36b59299c4d5d5bfbfc58", func := "loop.example/g01985/laws.FnExactApplyChange", spec := "fnExactApplyChange", unfollowed := true, recurses := true, apart := false, narrowed := true }
def FnExactApplyChangeUptoSaid : Prop := fnExactApplyChangeUptoRow.holds Try.pinned (OpenSpec.upto fnExactApplyChangeSpec)

/-- 'laws.FnExactCheckCertificate', WHERE WHAT IT READS IS OF BULK AT MOST 1048576: true; the input reads as it did. -/
def fnExactCheckCertificateUptoRow : OpenClaim := { program := "ytjglknoebaojgaa", sum := "bac0fc6d97bfed08fff8a5a5faedb24bab8e2112c3e36b59299c4d5d5bfbfc58", func := "loop.example/g01985/laws.FnExactCheckCertificate", spec := "fnExactCheckCertificate", unfollowed := true, recurses := true, apart := false, narrowed := true }
def FnExactCheckCertificateUptoSaid : Prop := fnExactCheckCertificateUptoRow.holds Try.pinned (OpenSpec.upto fnExactCheckCertificateSpec)

end Rows
end Go.Proofs.Ytjglknoebaojgaa
