/- The row of FnExactFormatChange: called with whatever can be read as data it returns true and leaves its arguments as they were. Conditions: none. -/
-- PURE: theorem FnExactFormatChange : ∀ (z0_0 : Bool) (z0_1 : Int) (z0_2 : List Int), ((Lit.int .i64 z0_1).wf = true) → (z0_2.length ≤ 9223372036854775807 ∧ ∀ e0 ∈ z0_2, (Lit.int .i64 e0).wf = true) → ∃ k, laws_FnExactFormatChange.f k z0_0 z0_1 z0_2 = some true
import Derived.Test.YtcneohelnfcbbaaRows
import Derived.Test.YtcneohelnfcbbaaPx9
import Derived.Test.YtcneohelnfcbbaaPureFnExactFormatChange
import Derived.Test.YtcneohelnfcbbaaOpens
import Derived.WalkKit
import Derived.ProofKit
import Derived.OpenShut
import Derived.ShutString
import Derived.ChangeOld
import Derived.Below
import Derived.SizedLaws
namespace Go.Proofs.Ytcneohelnfcbbaa.fnExactFormatChange
open Go.ChangeShapes Go.WideShapes Go.ChangeAt Go.RowKit Go.Proofs.Ytcneohelnfcbbaa.Opens Go.Proofs.YtcneohelnfcbbaaW.PrintWords Go.Proofs.Ytcneohelnfcbbaa.P
open Go.ChangeMaps (open_string shut_string)
set_option linter.unusedVariables false
theorem own : ownKnob Try.prog.godebug = none := by kernel_rfl
theorem laidOut : laidOutB Try.prog = true := by kernel_rfl
theorem op0 (w : World) : Rdd Try.prog w 47 (Kd.pair Kd.bool (Kd.pair (Kd.int .i64) (Kd.slice 3 (Kd.int .i64)))) (fun x => (True) ∧ ((Lit.int .i64 x.2.1).wf = true) ∧ (x.2.2.length ≤ 9223372036854775807 ∧ ∀ e0 ∈ x.2.2, (Lit.int .i64 e0).wf = true)) :=
  op_mono (op_struct2 Try.underlying47 rfl rfl (by kernel_rfl) (by kernel_rfl) (by kernel_rfl) (op_bool Try.underlying4) (op_struct2 Try.underlying45 rfl rfl (by kernel_rfl) (by kernel_rfl) (by kernel_rfl) (op_int Try.underlying3) (op_slice Try.underlying43 (by kernel_rfl) (op_int Try.underlying3)))) (fun _ h => by simpa only [and_assoc] using h)
set_option maxRecDepth 100000 in
theorem lifted (os : Os) (started : os.Started) (H : Type) (enc : TypeId × Value → H) :
    ReturnsInHanded {} Try.checked os 7 .any (Rows.fnExactFormatChangeSpec.pre6 enc Try.prog Try.f7 Rows.fnExactFormatChangeRow.domain false) (Rows.fnExactFormatChangeSpec.post enc Try.prog Try.f7 false true false false) := by
  refine returnsInHanded_of_change_sized (C := Try.checked) own started (by kernel_rfl) Try.func7
    (ChangeSpec.witness6 (enc := enc) (C := Try.checked) false ⟨#[], #[.agg #[.bool false, .int .i64 0, .slice none 0 0]], []⟩ 16 (by kernel_rfl) (by kernel_rfl) (by kernel_rfl) (by kernel_rfl)) ?_
  intro W base args ds gs before hval0 hW hcnd hsz0 _
  have hval : ∀ (j : Nat) t v, Try.f7.params[j]? = some t → args[j]? = some v → Value.okWide Try.prog W .any base t v := hval0
  have hW' := hW
  obtain ⟨p, q, hA0, hV, rfl, hfz, hnd⟩ := hW
  have hA : DataW.TrodAll enc Try.prog W 0 (fun _ => true) true Try.f7.params.toList args.toList ds p := hA0
  rw [Try.params7] at hA hval
  obtain ⟨v0, vs0, d0, ds0, p0, q0, hargs, rfl, rfl, h0, r0⟩ := trodAll_cons hA
  obtain ⟨rfl, rfl, rfl⟩ := trodAll_nil r0
  obtain rfl : args = #[v0] := by cases args; simp_all
  obtain ⟨rfl, rfl⟩ := trodVars_none hV
  have k0 := h0
  have lt0 : ∀ x ∈ p0, x.block < W.heap.size := by obtain ⟨m, hm⟩ := k0; exact DataW.trod_lt m _ _ _ hm
  obtain ⟨cs0, rfl, _⟩ := okWide_struct Try.underlying47 (hval 0 47 v0 rfl rfl)
  obtain ⟨x0, hK0, y0⟩ := op_of (op0 W) h0
  have hK0' : (Kd.pair Kd.bool (Kd.pair (Kd.int .i64) (Kd.slice 3 (Kd.int .i64)))).K W x0 cs0.toList := by simpa only [Value.cells] using hK0
  clear hK0
  obtain ⟨_, _, hcs0, rfl, ⟨_, _, rfl, rfl, ⟨A0_2, c0_2, rfl, l0_2, g0_2⟩⟩⟩ := hK0'
  obtain rfl : cs0 = #[.bool x0.1, .int .i64 x0.2.1, .slice A0_2 x0.2.2.length c0_2] := by cases cs0; simpa using hcs0
  obtain ⟨k, hk⟩ := Pure.FnExactFormatChange x0.1 x0.2.1 x0.2.2 y0.2.1 y0.2.2
  refine (laws_FnExactFormatChange.calls k x0.1 x0.2.1 _ _ x0.2.2 true W g0_2 l0_2 hk).mono fun e W' ⟨he, bel0⟩ => ?_
  have bel : Below W.heap.size W W' := bel0
  subst he
  exact ⟨_, rfl, _, _, _, [], _, [], hW', trodAll_mk1 (shut_bool Try.underlying4 _), (trodAll_cons_mk (Below.trod laidOut (by kernel_rfl) (of_decide_eq_true (by kernel_rfl)) k0 bel lt0) trodAll_mk0), rfl, bel.frame _, fun h => by cases h⟩
theorem over : Rows.fnExactFormatChangeRow.holds Try.pinned (OpenSpec.ofChange Rows.fnExactFormatChangeSpec) :=
  OpenClaim.holds_of_wide 7 Try.f7 rfl rfl rfl rfl rfl rfl rfl ⟨rfl, rfl, rfl, rfl, rfl⟩ rfl rfl rfl rfl rfl (by kernel_rfl) Try.func7 (by kernel_rfl)
    (of_decide_eq_true (by kernel_rfl)) (by unfold Func.isWrapper; first | (rw [if_pos (by decide +kernel)]; kernel_rfl) | (rw [if_neg (by decide +kernel)]; exact ⟨rfl, rfl⟩))
    (fun os started H enc _ => lifted os started H enc)
theorem proved : Rows.FnExactFormatChangeSaid := over
#print axioms proved
end Go.Proofs.Ytcneohelnfcbbaa.fnExactFormatChange
namespace Go.Proofs.Ytcneohelnfcbbaa
/-- The row, under a short name, for the claim. -/
theorem fnExactFormatChange_holds : Rows.FnExactFormatChangeSaid := fnExactFormatChange.proved
end Go.Proofs.Ytcneohelnfcbbaa
