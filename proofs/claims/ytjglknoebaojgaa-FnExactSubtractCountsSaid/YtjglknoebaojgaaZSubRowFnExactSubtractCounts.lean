/- The row of FnExactSubtractCounts: called with whatever can be read as data it returns true and leaves its arguments as they were. Conditions: none. -/
import Derived.Test.YtjglknoebaojgaaRows
import Derived.Test.YtjglknoebaojgaaZSubM15
import Derived.Test.YtjglknoebaojgaaZSubM16
import Derived.WalkKit
import Derived.ProofKit
import Derived.OpenShut
import Derived.ShutString
import Derived.ChangeOld
import Derived.Below
import Derived.SizedLaws
namespace Go.Proofs.Ytjglknoebaojgaa.fnExactSubtractCounts
open Go.ChangeShapes Go.WideShapes Go.ChangeAt Go.RowKit Go.Proofs.Ytjglknoebaojgaa.Opens Go.Proofs.YtjglknoebaojgaaW.PrintWords Go.Proofs.Ytjglknoebaojgaa.G
open Go.ChangeMaps (open_string shut_string)
set_option linter.unusedVariables false
theorem own : ownKnob Try.prog.godebug = none := by kernel_rfl
theorem laidOut : laidOutB Try.prog = true := by kernel_rfl
theorem op0 (w : World) : Rdd Try.prog w 22 (Kd.slice 89 k89) (fun x => x.length ≤ 9223372036854775807 ∧ ∀ e0 ∈ x, (e0.f0.length ≤ 9223372036854775807 ∧ ∀ e1 ∈ e0.f0, (Lit.int .i64 e1).wf = true) ∧ ((Lit.int .i64 e0.f1).wf = true)) :=
  op_mono (op_slice Try.underlying22 (by kernel_rfl) (op_iso _ (fun a => ⟨a.1, a.2⟩) (fun _ => rfl) (op_struct2 Try.underlying89 rfl rfl (by kernel_rfl) (by kernel_rfl) (by kernel_rfl) (op_slice Try.underlying32 (by kernel_rfl) (op_int Try.underlying3)) (op_int Try.underlying3)))) (fun _ h => h)
theorem op1 (w : World) : Rdd Try.prog w 22 (Kd.slice 89 k89) (fun x => x.length ≤ 9223372036854775807 ∧ ∀ e0 ∈ x, (e0.f0.length ≤ 9223372036854775807 ∧ ∀ e1 ∈ e0.f0, (Lit.int .i64 e1).wf = true) ∧ ((Lit.int .i64 e0.f1).wf = true)) :=
  op_mono (op_slice Try.underlying22 (by kernel_rfl) (op_iso _ (fun a => ⟨a.1, a.2⟩) (fun _ => rfl) (op_struct2 Try.underlying89 rfl rfl (by kernel_rfl) (by kernel_rfl) (by kernel_rfl) (op_slice Try.underlying32 (by kernel_rfl) (op_int Try.underlying3)) (op_int Try.underlying3)))) (fun _ h => h)
set_option maxRecDepth 100000 in
theorem lifted (os : Os) (started : os.Started) (H : Type) (enc : TypeId × Value → H) :
    ReturnsInHanded {} Try.checked os 3 .any (Rows.fnExactSubtractCountsSpec.pre6 enc Try.prog Try.f3 Rows.fnExactSubtractCountsRow.domain false) (Rows.fnExactSubtractCountsSpec.post enc Try.prog Try.f3 false true false false) := by
  refine returnsInHanded_of_change_sized (C := Try.checked) own started (by kernel_rfl) Try.func3
    (ChangeSpec.witness6 (enc := enc) (C := Try.checked) false ⟨#[], #[.slice none 0 0, .slice none 0 0], []⟩ 16 (by kernel_rfl) (by kernel_rfl) (by kernel_rfl) (by kernel_rfl)) ?_
  intro W base args ds gs before hval0 hW hcnd hsz0 _
  have hval : ∀ (j : Nat) t v, Try.f3.params[j]? = some t → args[j]? = some v → Value.okWide Try.prog W .any base t v := hval0
  have hW' := hW
  obtain ⟨p, q, hA0, hV, rfl, hfz, hnd⟩ := hW
  have hA : DataW.TrodAll enc Try.prog W 0 (fun _ => true) true Try.f3.params.toList args.toList ds p := hA0
  rw [Try.params3] at hA hval
  obtain ⟨v0, vs0, d0, ds0, p0, q0, hargs, rfl, rfl, h0, r0⟩ := trodAll_cons hA
  obtain ⟨v1, vs1, d1, ds1, p1, q1, rfl, rfl, rfl, h1, r1⟩ := trodAll_cons r0
  obtain ⟨rfl, rfl, rfl⟩ := trodAll_nil r1
  obtain rfl : args = #[v0, v1] := by cases args; simp_all
  obtain ⟨rfl, rfl⟩ := trodVars_none hV
  have k0 := h0
  have lt0 : ∀ x ∈ p0, x.block < W.heap.size := by obtain ⟨m, hm⟩ := k0; exact DataW.trod_lt m _ _ _ hm
  obtain ⟨b0, len0, cap0, rfl⟩ := okWide_slice Try.underlying22 (hval 0 22 v0 rfl rfl)
  obtain ⟨x0, ⟨A0, c0, hcs0, l0, g0⟩, y0⟩ := op_of (op0 W) h0
  obtain ⟨rfl, rfl, rfl⟩ : b0 = A0 ∧ len0 = x0.length ∧ cap0 = c0 := by simpa [Value.cells] using hcs0
  have k1 := h1
  have lt1 : ∀ x ∈ p1, x.block < W.heap.size := by obtain ⟨m, hm⟩ := k1; exact DataW.trod_lt m _ _ _ hm
  obtain ⟨b1, len1, cap1, rfl⟩ := okWide_slice Try.underlying22 (hval 1 22 v1 rfl rfl)
  obtain ⟨x1, ⟨A1, c1, hcs1, l1, g1⟩, y1⟩ := op_of (op1 W) h1
  obtain ⟨rfl, rfl, rfl⟩ : b1 = A1 ∧ len1 = x1.length ∧ cap1 = c1 := by simpa [Value.cells] using hcs1
  obtain ⟨k, hk⟩ := Pure.FnExactSubtractCounts x0 x1 y0 y1
  refine (laws_FnExactSubtractCounts.calls k _ _ x0 _ _ x1 W g0 l0 g1 l1 hk).mono fun e W' ⟨he, bel0⟩ => ?_
  have bel : Below W.heap.size W W' := bel0
  subst he
  exact ⟨_, rfl, _, _, _, [], _, [], hW', trodAll_mk1 (shut_bool Try.underlying4 _), (trodAll_cons_mk (Below.trod laidOut (by kernel_rfl) (of_decide_eq_true (by kernel_rfl)) k0 bel lt0) (trodAll_cons_mk (Below.trod laidOut (by kernel_rfl) (of_decide_eq_true (by kernel_rfl)) k1 bel lt1) trodAll_mk0)), rfl, bel.frame _, fun h => by cases h⟩
theorem over : Rows.fnExactSubtractCountsRow.holds Try.pinned (OpenSpec.ofChange Rows.fnExactSubtractCountsSpec) :=
  OpenClaim.holds_of_wide 3 Try.f3 rfl rfl rfl rfl rfl rfl rfl ⟨rfl, rfl, rfl, rfl, rfl⟩ rfl rfl rfl rfl rfl (by kernel_rfl) Try.func3 (by kernel_rfl)
    (of_decide_eq_true (by kernel_rfl)) (by unfold Func.isWrapper; first | (rw [if_pos (by decide +kernel)]; kernel_rfl) | (rw [if_neg (by decide +kernel)]; exact ⟨rfl, rfl⟩))
    (fun os started H enc _ => lifted os started H enc)
theorem proved : Rows.FnExactSubtractCountsSaid := over
#print axioms proved
end Go.Proofs.Ytjglknoebaojgaa.fnExactSubtractCounts
namespace Go.Proofs.Ytjglknoebaojgaa
/-- The row, under a short name, for the claim. -/
theorem fnExactSubtractCounts_holds : Rows.FnExactSubtractCountsSaid := fnExactSubtractCounts.proved
end Go.Proofs.Ytjglknoebaojgaa

