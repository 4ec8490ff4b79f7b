/-
  No cell of these rows narrows 'for every input' (looked for: loops, veiled, ifaces, maps, wideKeys, modest, calm, conditions, laid).
  DERIVED. THE GIVEN ROWS OF THIS SEAT. 6 by the template 'for every input the law returns true; each argument reads behind the call as it read before'; 0 by the template 'total and deterministic' (their statements: YtcneohelnfcbbaaTotals.lean).
  GIVEN WITH THE SEED: the statements are not yours to turn. If you find one false, say at which input.
  Laid BY PROGRAM, IN A SANDBOX (cutbox-rows.mjs): the forced cells as the released guide's own fill.sh prints them over the translation 65b11625dc9221d9… (all of the seat's roots in one cut). By AI agents, Wed Nov 11 2026. No macro, syntax, notation, axiom, sorry.
-/
import Derived.Test.YtcneohelnfcbbaaChecked
import GoSem.Claim
import GoSem.ClaimJoined
import GoSem.ClaimMapViews
import Derived.JoinedTies
import Derived.KernelRfl
namespace Go.Proofs.Ytcneohelnfcbbaa
/- THE CELL 'sum', in the pinned program and in every row, IS THE sha256 OF THE DUMP (.gsa) THAT YtcneohelnfcbbaaProg.lean LOADS. Nothing in Lean hashes anything: it is a label: what it is worth is what the hold of that sum in a sandbox is worth. -/
noncomputable def Try.pinned : Pinned := { name := "ytcneohelnfcbbaa", sum := "65b11625dc9221d942b0eafbd7c4d3d7f014e98a07f57433723f6128a014e4e7", checked := Try.checked }
namespace Rows
def none {H : Type} : Left H := { results := [], args := [] }

/-- 'laws.FnExactIsSession': WHATEVER THE INPUT: true; the input reads as it did. -/
def fnExactIsSessionSpec : ChangeSpec := { name := "fnExactIsSession", fn := fun _ => fun
  | [d] => { results := [.lit (.bool true)], args := [d] }
  | _ => none }
def fnExactIsSessionRow : OpenClaim := { program := "ytcneohelnfcbbaa", sum := "65b11625dc9221d942b0eafbd7c4d3d7f014e98a07f57433723f6128a014e4e7", func := "loop.example/g01985/laws.FnExactIsSession", spec := "fnExactIsSession", apart := false }
def FnExactIsSessionSaid : Prop := fnExactIsSessionRow.holds Try.pinned (OpenSpec.ofChange fnExactIsSessionSpec)

/-- ITS FALSE NEIGHBOUR: 'it returns false'. Refute it at one input. -/
def fnExactIsSessionWrong : ChangeSpec := { name := "fnExactIsSession", fn := fun _ => fun
  | [d] => { results := [.lit (.bool false)], args := [d] }
  | _ => none }
def FnExactIsSessionWrongFalsely : Prop := fnExactIsSessionRow.holds Try.pinned (OpenSpec.ofChange fnExactIsSessionWrong)

/-- 'laws.FnExactCodeName': WHATEVER THE INPUT: true; the input reads as it did. -/
def fnExactCodeNameSpec : ChangeSpec := { name := "fnExactCodeName", fn := fun _ => fun
  | [d] => { results := [.lit (.bool true)], args := [d] }
  | _ => none }
def fnExactCodeNameRow : OpenClaim := { program := "ytcneohelnfcbbaa", sum := "65b11625dc9221d942b0eafbd7c4d3d7f014e98a07f57433723f6128a014e4e7", func := "loop.example/g01985/laws.FnExactCodeName", spec := "fnExactCodeName", apart := false }
def FnExactCodeNameSaid : Prop := fnExactCodeNameRow.holds Try.pinned (OpenSpec.ofChange fnExactCodeNameSpec)

/-- ITS FALSE NEIGHBOUR: 'it returns false'. Refute it at one input. -/
def fnExactCodeNameWrong : ChangeSpec := { name := "fnExactCodeName", fn := fun _ => fun
  | [d] => { results := [.lit (.bool false)], args := [d] }
  | _ => none }
def FnExactCodeNameWrongFalsely : Prop := fnExactCodeNameRow.holds Try.pinned (OpenSpec.ofChange fnExactCodeNameWrong)

/-- 'laws.FnExactFormatTuples': WHATEVER THE INPUT: true; the input reads as it did. -/
def fnExactFormatTuplesSpec : ChangeSpec := { name := "fnExactFormatTuples", fn := fun _ => fun
  | [d] => { results := [.lit (.bool true)], args := [d] }
  | _ => none }
def fnExactFormatTuplesRow : OpenClaim := { program := "ytcneohelnfcbbaa", sum := "65b11625dc9221d942b0eafbd7c4d3d7f014e98a07f57433723f6128a014e4e7", func := "loop.example/g01985/laws.FnExactFormatTuples", spec := "fnExactFormatTuples", apart := false }
def FnExactFormatTuplesSaid : Prop := fnExactFormatTuplesRow.holds Try.pinned (OpenSpec.ofChange fnExactFormatTuplesSpec)

/-- ITS FALSE NEIGHBOUR: 'it returns false'. Refute it at one input. -/
def fnExactFormatTuplesWrong : ChangeSpec := { name := "fnExactFormatTuples", fn := fun _ => fun
  | [d] => { results := [.lit (.bool false)], args := [d] }
  | _ => none }
def FnExactFormatTuplesWrongFalsely : Prop := fnExactFormatTuplesRow.holds Try.pinned (OpenSpec.ofChange fnExactFormatTuplesWrong)

/-- 'laws.FnExactFormatCounts': WHATEVER THE INPUT: true; the input reads as it did. -/
def fnExactFormatCountsSpec : ChangeSpec := { name := "fnExactFormatCounts", fn := fun _ => fun
  | [d] => { results := [.lit (.bool true)], args := [d] }
  | _ => none }
def fnExactFormatCountsRow : OpenClaim := { program := "ytcneohelnfcbbaa", sum := "65b11625dc9221d942b0eafbd7c4d3d7f014e98a07f57433723f6128a014e4e7", func := "loop.example/g01985/laws.FnExactFormatCounts", spec := "fnExactFormatCounts", apart := false }
def FnExactFormatCountsSaid : Prop := fnExactFormatCountsRow.holds Try.pinned (OpenSpec.ofChange fnExactFormatCountsSpec)

/-- ITS FALSE NEIGHBOUR: 'it returns false'. Refute it at one input. -/
def fnExactFormatCountsWrong : ChangeSpec := { name := "fnExactFormatCounts", fn := fun _ => fun
  | [d] => { results := [.lit (.bool false)], args := [d] }
  | _ => none }
def FnExactFormatCountsWrongFalsely : Prop := fnExactFormatCountsRow.holds Try.pinned (OpenSpec.ofChange fnExactFormatCountsWrong)

/-- 'laws.FnExactFormatChange': WHATEVER THE INPUT: true; the input reads as it did. -/
def fnExactFormatChangeSpec : ChangeSpec := { name := "fnExactFormatChange", fn := fun _ => fun
  | [d] => { results := [.lit (.bool true)], args := [d] }
  | _ => none }
def fnExactFormatChangeRow : OpenClaim := { program := "ytcneohelnfcbbaa", sum := "65b11625dc9221d942b0eafbd7c4d3d7f014e98a07f57433723f6128a014e4e7", func := "loop.example/g01985/laws.FnExactFormatChange", spec := "fnExactFormatChange", apart := false }
def FnExactFormatChangeSaid : Prop := fnExactFormatChangeRow.holds Try.pinned (OpenSpec.ofChange fnExactFormatChangeSpec)

/-- ITS FALSE NEIGHBOUR: 'it returns false'. Refute it at one input. -/
def fnExactFormatChangeWrong : ChangeSpec := { name := "fnExactFormatChange", fn := fun _ => fun
  | [d] => { results := [.lit (.bool false)], args := [d] }
  | _ => none }
def FnExactFormatChangeWrongFalsely : Prop := fnExactFormatChangeRow.holds Try.pinned (OpenSpec.ofChange fnExactFormatChangeWrong)

/-- 'laws.FnExactMayAffect': WHATEVER THE INPUT: true; the input reads as it did. -/
def fnExactMayAffectSpec : ChangeSpec := { name := "fnExactMayAffect", fn := fun _ => fun
  | [d1, d2] => { results := [.lit (.bool true)], args := [d1, d2] }
  | _ => none }
def fnExactMayAffectRow : OpenClaim := { program := "ytcneohelnfcbbaa", sum := "65b11625dc9221d942b0eafbd7c4d3d7f014e98a07f57433723f6128a014e4e7", func := "loop.example/g01985/laws.FnExactMayAffect", spec := "fnExactMayAffect", apart := false }
def FnExactMayAffectSaid : Prop := fnExactMayAffectRow.holds Try.pinned (OpenSpec.ofChange fnExactMayAffectSpec)

/-- ITS FALSE NEIGHBOUR: 'it returns false'. Refute it at one input. -/
def fnExactMayAffectWrong : ChangeSpec := { name := "fnExactMayAffect", fn := fun _ => fun
  | [d1, d2] => { results := [.lit (.bool false)], args := [d1, d2] }
  | _ => none }
def FnExactMayAffectWrongFalsely : Prop := fnExactMayAffectRow.holds Try.pinned (OpenSpec.ofChange fnExactMayAffectWrong)

/- THE SECOND FORM. 'bulk': how many values and letters a reading holds, each counted each time it is reached (what is shared counts as often as it is met; a slice's spare places count too). A statement '..UptoSaid' is the law's where the arguments, and the package variables that the reading takes, are together of bulk at most 1048576: NARROWER than '..Said'. Prove '..Said' where nothing that the law and all that it calls make is longer than what came in: it says more and counts as full. Else prove '..UptoSaid'. A law counts once. -/
mutual
def uptoBulk {H : Type} : DataW H → Nat
  | .lit (.string bytes) => bytes.length + 1
  | .lit _ => 1
  | .nil => 1
  | .ptr d => uptoBulk d + 1
  | .slice elems spare => uptoBulkAll elems + uptoBulkAll spare + 1
  | .agg parts => uptoBulkAll parts + 1
  | .iface _ d => uptoBulk d + 1
  | .map entries => uptoBulkEntries entries + 1
  | .held _ => 1
def uptoBulkAll {H : Type} : List (DataW H) → Nat
  | [] => 0
  | d :: r => uptoBulk d + uptoBulkAll r
def uptoBulkEntries {H : Type} : List (Lit × DataW H) → Nat
  | [] => 0
  | x :: r => uptoBulkEntry x + uptoBulkEntries r
def uptoBulkEntry {H : Type} : Lit × DataW H → Nat
  | (.string bytes, d) => bytes.length + uptoBulk d + 1
  | (_, d) => uptoBulk d + 1
 end
def uptoSmall : (H : Type) → List (DataW H) → Bool := fun _ ds => decide (uptoBulkAll ds ≤ 1048576)
def OpenSpec.upto (s : _root_.Go.ChangeSpec) : _root_.Go.OpenSpec := { _root_.Go.OpenSpec.ofChange s with cond := some uptoSmall }

/-- 'laws.FnExactIsSession', WHERE WHAT IT READS IS OF BULK AT MOST 1048576: true; the input reads as it did. -/
def fnExactIsSessionUptoRow : OpenClaim := { program := "ytcneohelnfcbbaa", sum := "65b11625dc9221d942b0eafbd7c4d3d7f014e98a07f57433723f6128a014e4e7", func := "loop.example/g01985/laws.FnExactIsSession", spec := "fnExactIsSession", apart := false, narrowed := true }
def FnExactIsSessionUptoSaid : Prop := fnExactIsSessionUptoRow.holds Try.pinned (OpenSpec.upto fnExactIsSessionSpec)

/-- 'laws.FnExactCodeName', WHERE WHAT IT READS IS OF BULK AT MOST 1048576: true; the input reads as it did. -/
def fnExactCodeNameUptoRow : OpenClaim := { program := "ytcneohelnfcbbaa", sum := "65b11625dc9221d942b0eafbd7c4d3d7f014e98a07f57433723f6128a014e4e7", func := "loop.example/g01985/laws.FnExactCodeName", spec := "fnExactCodeName", apart := false, narrowed := true }
def FnExactCodeNameUptoSaid : Prop := fnExactCodeNameUptoRow.holds Try.pinned (OpenSpec.upto fnExactCodeNameSpec)

/-- 'laws.FnExactFormatTuples', WHERE WHAT IT READS IS OF BULK AT MOST 1048576: true; the input reads as it did. -/
def fnExactFormatTuplesUptoRow : OpenClaim := { program := "ytcneohelnfcbbaa", sum := "65b11625dc9221d942b0eafbd7c4d3d7f014e98a07f57433723f6128a014e4e7", func := "loop.example/g01985/laws.FnExactFormatTuples", spec := "fnExactFormatTuples", apart := false, narrowed := true }
def FnExactFormatTuplesUptoSaid : Prop := fnExactFormatTuplesUptoRow.holds Try.pinned (OpenSpec.upto fnExactFormatTuplesSpec)

/-- 'laws.FnExactFormatCounts', WHERE WHAT IT READS IS OF BULK AT MOST 1048576: true; the input reads as it did. -/
def fnExactFormatCountsUptoRow : OpenClaim := { program := "ytcneohelnfcbbaa", sum := "65b11625dc9221d942b0eafbd7c4d3d7f014e98a07f57433723f6128a014e4e7", func := "loop.example/g01985/laws.FnExactFormatCounts", spec := "fnExactFormatCounts", apart := false, narrowed := true }
def FnExactFormatCountsUptoSaid : Prop := fnExactFormatCountsUptoRow.holds Try.pinned (OpenSpec.upto fnExactFormatCountsSpec)

/-- 'laws.FnExactFormatChange', WHERE WHAT IT READS IS OF BULK AT MOST 1048576: true; the input reads as it did. -/
def fnExactFormatChangeUptoRow : OpenClaim := { program := "ytcneohelnfcbbaa", sum := "65b11625dc9221d942b0eafbd7c4d3d7f014e98a07f57433723f6128a014e4e7", func := "loop.example/g01985/laws.FnExactFormatChange", spec := "fnExactFormatChange", apart := false, narrowed := true }
def FnExactFormatChangeUptoSaid : Prop := fnExactFormatChangeUptoRow.holds Try.pinned (OpenSpec.upto fnExactFormatChangeSpec)

/-- 'laws.FnExactMayAffect', WHERE WHAT IT READS IS OF BULK AT MOST 1048576: true; the input reads as it did. -/
def fnExactMayAffectUptoRow : OpenClaim := { program := "ytcneohelnfcbbaa", sum := "65b11625dc9221d942b0eafbd7c4d3d7f014e98a07f57433723f6128a014e4e7", func := "loop.example/g01985/laws.FnExactMayAffect", spec := "fnExactMayAffect", apart := false, narrowed := true }
def FnExactMayAffectUptoSaid : Prop := fnExactMayAffectUptoRow.holds Try.pinned (OpenSpec.upto fnExactMayAffectSpec)

end Rows
end Go.Proofs.Ytcneohelnfcbbaa
