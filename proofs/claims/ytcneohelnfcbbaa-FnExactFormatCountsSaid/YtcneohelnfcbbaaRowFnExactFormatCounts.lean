/- The row of FnExactFormatCounts: called with whatever can be read as data it returns true and leaves its arguments as they were. Conditions: none. -/
-- PURE: theorem FnExactFormatCounts : ∀ (x0 : List S79), (x0.length ≤ 9223372036854775807 ∧ ∀ e0 ∈ x0, (e0.f0.length ≤ 9223372036854775807 ∧ ∀ e1 ∈ e0.f0, (Lit.int .i64 e1).wf = true) ∧ ((Lit.int .i64 e0.f1).wf = true)) → ∃ k, laws_FnExactFormatCounts.f k x0 = some true
import Derived.Test.YtcneohelnfcbbaaRows
import Derived.Test.YtcneohelnfcbbaaPx7
import Derived.Test.YtcneohelnfcbbaaPureFnExactFormatCounts
import Derived.Test.YtcneohelnfcbbaaOpens
import Derived.WalkKit
import Derived.ProofKit
import Derived.OpenShut
import Derived.ShutString
import Derived.ChangeOld
import Derived.Below
import Derived.SizedLaws
namespace Go.Proofs.Ytcneohelnfcbbaa.fnExactFormatCounts
open Go.ChangeShapes Go.WideShapes Go.ChangeAt Go.RowKit Go.Proofs.Ytcneohelnfcbbaa.Opens Go.Proofs.YtcneohelnfcbbaaW.PrintWords Go.Proofs.Ytcneohelnfcbbaa.P
open Go.ChangeMaps (open_string shut_string)
set_option linter.unusedVariables false
theorem own : ownKnob Try.prog.godebug = none := by kernel_rfl
theorem laidOut : laidOutB Try.prog = true := by kernel_rfl
theorem op0 (w : World) : Rdd Try.prog w 36 (Kd.slice 79 k79) (fun x => x.length ≤ 9223372036854775807 ∧ ∀ e0 ∈ x, (e0.f0.length ≤ 9223372036854775807 ∧ ∀ e1 ∈ e0.f0, (Lit.int .i64 e1).wf = true) ∧ ((Lit.int .i64 e0.f1).wf = true)) :=
  op_mono (op_slice Try.underlying36 (by kernel_rfl) (op_iso _ (fun a => ⟨a.1, a.2⟩) (fun _ => rfl) (op_struct2 Try.underlying79 rfl rfl (by kernel_rfl) (by kernel_rfl) (by kernel_rfl) (op_slice Try.underlying43 (by kernel_rfl) (op_int Try.underlying3)) (op_int Try.underlying3)))) (fun _ h => h)
set_option maxRecDepth 100000 in
theorem lifted (os : Os) (started : os.Started) (H : Type) (enc : TypeId × Value → H) :
    ReturnsInHanded {} Try.checked os 6 .any (Rows.fnExactFormatCountsSpec.pre6 enc Try.prog Try.f6 Rows.fnExactFormatCountsRow.domain false) (Rows.fnExactFormatCountsSpec.post enc Try.prog Try.f6 false true false false) := by
  refine returnsInHanded_of_change_sized (C := Try.checked) own started (by kernel_rfl) Try.func6
    (ChangeSpec.witness6 (enc := enc) (C := Try.checked) false ⟨#[], #[.slice none 0 0], []⟩ 16 (by kernel_rfl) (by kernel_rfl) (by kernel_rfl) (by kernel_rfl)) ?_
  intro W base args ds gs before hval0 hW hcnd hsz0 _
  have hval : ∀ (j : Nat) t v, Try.f6.params[j]? = some t → args[j]? = some v → Value.okWide Try.prog W .any base t v := hval0
  have hW' := hW
  obtain ⟨p, q, hA0, hV, rfl, hfz, hnd⟩ := hW
  have hA : DataW.TrodAll enc Try.prog W 0 (fun _ => true) true Try.f6.params.toList args.toList ds p := hA0
  rw [Try.params6] at hA hval
  obtain ⟨v0, vs0, d0, ds0, p0, q0, hargs, rfl, rfl, h0, r0⟩ := trodAll_cons hA
  obtain ⟨rfl, rfl, rfl⟩ := trodAll_nil r0
  obtain rfl : args = #[v0] := by cases args; simp_all
  obtain ⟨rfl, rfl⟩ := trodVars_none hV
  have k0 := h0
  have lt0 : ∀ x ∈ p0, x.block < W.heap.size := by obtain ⟨m, hm⟩ := k0; exact DataW.trod_lt m _ _ _ hm
  obtain ⟨b0, len0, cap0, rfl⟩ := okWide_slice Try.underlying36 (hval 0 36 v0 rfl rfl)
  obtain ⟨x0, ⟨A0, c0, hcs0, l0, g0⟩, y0⟩ := op_of (op0 W) h0
  obtain ⟨rfl, rfl, rfl⟩ : b0 = A0 ∧ len0 = x0.length ∧ cap0 = c0 := by simpa [Value.cells] using hcs0
  obtain ⟨k, hk⟩ := Pure.FnExactFormatCounts x0 y0
  refine (laws_FnExactFormatCounts.calls k _ _ x0 true W g0 l0 hk).mono fun e W' ⟨he, bel0⟩ => ?_
  have bel : Below W.heap.size W W' := bel0
  subst he
  exact ⟨_, rfl, _, _, _, [], _, [], hW', trodAll_mk1 (shut_bool Try.underlying4 _), (trodAll_cons_mk (Below.trod laidOut (by kernel_rfl) (of_decide_eq_true (by kernel_rfl)) k0 bel lt0) trodAll_mk0), rfl, bel.frame _, fun h => by cases h⟩
theorem over : Rows.fnExactFormatCountsRow.holds Try.pinned (OpenSpec.ofChange Rows.fnExactFormatCountsSpec) :=
  OpenClaim.holds_of_wide 6 Try.f6 rfl rfl rfl rfl rfl rfl rfl ⟨rfl, rfl, rfl, rfl, rfl⟩ rfl rfl rfl rfl rfl (by kernel_rfl) Try.func6 (by kernel_rfl)
    (of_decide_eq_true (by kernel_rfl)) (by unfold Func.isWrapper; first | (rw [if_pos (by decide +kernel)]; kernel_rfl) | (rw [if_neg (by decide +kernel)]; exact ⟨rfl, rfl⟩))
    (fun os started H enc _ => lifted os started H enc)
theorem proved : Rows.FnExactFormatCountsSaid := over
#print axioms proved
end Go.Proofs.Ytcneohelnfcbbaa.fnExactFormatCounts
namespace Go.Proofs.Ytcneohelnfcbbaa
/-- The row, under a short name, for the claim. -/
theorem fnExactFormatCounts_holds : Rows.FnExactFormatCountsSaid := fnExactFormatCounts.proved
end Go.Proofs.Ytcneohelnfcbbaa
