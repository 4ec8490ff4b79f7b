/- The row of FnExactIsSession: called with whatever can be read as data it returns true and leaves its arguments as they were. Conditions: none. -/
-- PURE: theorem FnExactIsSession : ∀ (z0_0 : Int) (z0_1 : Int), ((Lit.int .i64 z0_0).wf = true) → ((Lit.int .i64 z0_1).wf = true) → laws_FnExactIsSession.f z0_0 z0_1 = some true
import Derived.Test.YtcneohelnfcbbaaRows
import Derived.Test.YtcneohelnfcbbaaPx1
import Derived.Test.YtcneohelnfcbbaaPureFnExactIsSession
import Derived.Test.YtcneohelnfcbbaaOpens
import Derived.WalkKit
import Derived.ProofKit
import Derived.OpenShut
import Derived.ShutString
import Derived.ChangeOld
import Derived.Below
import Derived.SizedLaws
namespace Go.Proofs.Ytcneohelnfcbbaa.fnExactIsSession
open Go.ChangeShapes Go.WideShapes Go.ChangeAt Go.RowKit Go.Proofs.Ytcneohelnfcbbaa.Opens Go.Proofs.YtcneohelnfcbbaaW.PrintWords Go.Proofs.Ytcneohelnfcbbaa.P
open Go.ChangeMaps (open_string shut_string)
set_option linter.unusedVariables false
theorem own : ownKnob Try.prog.godebug = none := by kernel_rfl
theorem laidOut : laidOutB Try.prog = true := by kernel_rfl
theorem op0 (w : World) : Rdd Try.prog w 23 (Kd.pair (Kd.int .i64) (Kd.int .i64)) (fun x => ((Lit.int .i64 x.1).wf = true) ∧ ((Lit.int .i64 x.2).wf = true)) :=
  op_mono (op_struct2 Try.underlying23 rfl rfl (by kernel_rfl) (by kernel_rfl) (by kernel_rfl) (op_int Try.underlying3) (op_int Try.underlying3)) (fun _ h => by simpa only [and_assoc] using h)
set_option maxRecDepth 100000 in
theorem lifted (os : Os) (started : os.Started) (H : Type) (enc : TypeId × Value → H) :
    ReturnsInHanded {} Try.checked os 3 .any (Rows.fnExactIsSessionSpec.pre6 enc Try.prog Try.f3 Rows.fnExactIsSessionRow.domain false) (Rows.fnExactIsSessionSpec.post enc Try.prog Try.f3 false true false false) := by
  refine returnsInHanded_of_change_sized (C := Try.checked) own started (by kernel_rfl) Try.func3
    (ChangeSpec.witness6 (enc := enc) (C := Try.checked) false ⟨#[], #[.agg #[.int .i64 0, .int .i64 0]], []⟩ 16 (by kernel_rfl) (by kernel_rfl) (by kernel_rfl) (by kernel_rfl)) ?_
  intro W base args ds gs before hval0 hW hcnd hsz0 _
  have hval : ∀ (j : Nat) t v, Try.f3.params[j]? = some t → args[j]? = some v → Value.okWide Try.prog W .any base t v := hval0
  have hW' := hW
  obtain ⟨p, q, hA0, hV, rfl, hfz, hnd⟩ := hW
  have hA : DataW.TrodAll enc Try.prog W 0 (fun _ => true) true Try.f3.params.toList args.toList ds p := hA0
  rw [Try.params3] at hA hval
  obtain ⟨v0, vs0, d0, ds0, p0, q0, hargs, rfl, rfl, h0, r0⟩ := trodAll_cons hA
  obtain ⟨rfl, rfl, rfl⟩ := trodAll_nil r0
  obtain rfl : args = #[v0] := by cases args; simp_all
  obtain ⟨rfl, rfl⟩ := trodVars_none hV
  have k0 := h0
  have lt0 : ∀ x ∈ p0, x.block < W.heap.size := by obtain ⟨m, hm⟩ := k0; exact DataW.trod_lt m _ _ _ hm
  obtain ⟨cs0, rfl, _⟩ := okWide_struct Try.underlying23 (hval 0 23 v0 rfl rfl)
  obtain ⟨x0, hK0, y0⟩ := op_of (op0 W) h0
  have hK0' : (Kd.pair (Kd.int .i64) (Kd.int .i64)).K W x0 cs0.toList := by simpa only [Value.cells] using hK0
  clear hK0
  obtain ⟨_, _, hcs0, rfl, rfl⟩ := hK0'
  obtain rfl : cs0 = #[.int .i64 x0.1, .int .i64 x0.2] := by cases cs0; simpa using hcs0
  have hk := Pure.FnExactIsSession x0.1 x0.2 y0.1 y0.2
  refine (laws_FnExactIsSession.calls x0.1 x0.2 true W hk).mono fun e W' ⟨he, bel0⟩ => ?_
  have bel : Below W.heap.size W W' := bel0
  subst he
  exact ⟨_, rfl, _, _, _, [], _, [], hW', trodAll_mk1 (shut_bool Try.underlying4 _), (trodAll_cons_mk (Below.trod laidOut (by kernel_rfl) (of_decide_eq_true (by kernel_rfl)) k0 bel lt0) trodAll_mk0), rfl, bel.frame _, fun h => by cases h⟩
theorem over : Rows.fnExactIsSessionRow.holds Try.pinned (OpenSpec.ofChange Rows.fnExactIsSessionSpec) :=
  OpenClaim.holds_of_wide 3 Try.f3 rfl rfl rfl rfl rfl rfl rfl ⟨rfl, rfl, rfl, rfl, rfl⟩ rfl rfl rfl rfl rfl (by kernel_rfl) Try.func3 (by kernel_rfl)
    (of_decide_eq_true (by kernel_rfl)) (by unfold Func.isWrapper; first | (rw [if_pos (by decide +kernel)]; kernel_rfl) | (rw [if_neg (by decide +kernel)]; exact ⟨rfl, rfl⟩))
    (fun os started H enc _ => lifted os started H enc)
theorem proved : Rows.FnExactIsSessionSaid := over
#print axioms proved
end Go.Proofs.Ytcneohelnfcbbaa.fnExactIsSession
namespace Go.Proofs.Ytcneohelnfcbbaa
/-- The row, under a short name, for the claim. -/
theorem fnExactIsSession_holds : Rows.FnExactIsSessionSaid := fnExactIsSession.proved
end Go.Proofs.Ytcneohelnfcbbaa
