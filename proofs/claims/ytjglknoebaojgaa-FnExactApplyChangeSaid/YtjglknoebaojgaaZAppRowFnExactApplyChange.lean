/- The row of FnExactApplyChange: called with whatever can be read as data it returns true and leaves its arguments as they were. Conditions: none. -/
import Derived.Test.YtjglknoebaojgaaRows
import Derived.Test.YtjglknoebaojgaaZAppPxyFnExactApplyChange
import Derived.Test.YtjglknoebaojgaaZAppPureFnExactApplyChange
import Derived.Test.YtjglknoebaojgaaZAppM25
import Derived.WalkKit
import Derived.ProofKit
import Derived.OpenShut
import Derived.ShutString
import Derived.ChangeOld
import Derived.Below
import Derived.SizedLaws
namespace Go.Proofs.Ytjglknoebaojgaa.fnExactApplyChange
open Go.ChangeShapes Go.WideShapes Go.ChangeAt Go.RowKit Go.Proofs.Ytjglknoebaojgaa.Opens Go.Proofs.YtjglknoebaojgaaW.PrintWords Go.Proofs.Ytjglknoebaojgaa.P
open Go.ChangeMaps (open_string shut_string)
set_option linter.unusedVariables false
theorem own : ownKnob Try.prog.godebug = none := by kernel_rfl
theorem laidOut : laidOutB Try.prog = true := by kernel_rfl
theorem op0 (w : World) : Rdd Try.prog w 34 (Kd.slice 3 (Kd.int .i64)) (fun x => (x.length ≤ 9223372036854775807 ∧ ∀ e0 ∈ x, (Lit.int .i64 e0).wf = true)) :=
  op_mono (op_struct1 Try.underlying34 rfl (by kernel_rfl) (by kernel_rfl) (op_slice Try.underlying32 (by kernel_rfl) (op_int Try.underlying3))) (fun _ h => by simpa only [and_assoc] using h)
theorem op1 (w : World) : Rdd Try.prog w 37 (Kd.pair (Kd.slice 39 k39) (Kd.int .i64)) (fun x => (x.1.length ≤ 9223372036854775807 ∧ ∀ e0 ∈ x.1, ((Lit.int .i64 e0.f0).wf = true) ∧ (e0.f1.length ≤ 9223372036854775807 ∧ ∀ e1 ∈ e0.f1, (Lit.int .i64 e1).wf = true)) ∧ ((Lit.int .i64 x.2).wf = true)) :=
  op_mono (op_struct2 Try.underlying37 rfl rfl (by kernel_rfl) (by kernel_rfl) (by kernel_rfl) (op_slice Try.underlying35 (by kernel_rfl) (op_iso _ (fun a => ⟨a.1, a.2⟩) (fun _ => rfl) (op_struct2 Try.underlying39 rfl rfl (by kernel_rfl) (by kernel_rfl) (by kernel_rfl) (op_int Try.underlying3) (op_slice Try.underlying32 (by kernel_rfl) (op_int Try.underlying3))))) (op_int Try.underlying3)) (fun _ h => by simpa only [and_assoc] using h)
theorem op2 (w : World) : Rdd Try.prog w 41 (Kd.pair Kd.bool (Kd.pair (Kd.int .i64) (Kd.slice 3 (Kd.int .i64)))) (fun x => (True) ∧ ((Lit.int .i64 x.2.1).wf = true) ∧ (x.2.2.length ≤ 9223372036854775807 ∧ ∀ e0 ∈ x.2.2, (Lit.int .i64 e0).wf = true)) :=
  op_mono (op_struct2 Try.underlying41 rfl rfl (by kernel_rfl) (by kernel_rfl) (by kernel_rfl) (op_bool Try.underlying4) (op_struct2 Try.underlying39 rfl rfl (by kernel_rfl) (by kernel_rfl) (by kernel_rfl) (op_int Try.underlying3) (op_slice Try.underlying32 (by kernel_rfl) (op_int Try.underlying3)))) (fun _ h => by simpa only [and_assoc] using h)
set_option maxRecDepth 100000 in
theorem lifted (os : Os) (started : os.Started) (H : Type) (enc : TypeId × Value → H) :
    ReturnsInHanded {} Try.checked os 5 .any (Rows.fnExactApplyChangeSpec.pre6 enc Try.prog Try.f5 Rows.fnExactApplyChangeRow.domain false) (Rows.fnExactApplyChangeSpec.post enc Try.prog Try.f5 false true false false) := by
  refine returnsInHanded_of_change_sized (C := Try.checked) own started (by kernel_rfl) Try.func5
    (ChangeSpec.witness6 (enc := enc) (C := Try.checked) false ⟨#[], #[.agg #[.slice none 0 0], .agg #[.slice none 0 0, .int .i64 0], .agg #[.bool false, .int .i64 0, .slice none 0 0]], []⟩ 16 (by kernel_rfl) (by kernel_rfl) (by kernel_rfl) (by kernel_rfl)) ?_
  intro W base args ds gs before hval0 hW hcnd hsz0 _
  have hval : ∀ (j : Nat) t v, Try.f5.params[j]? = some t → args[j]? = some v → Value.okWide Try.prog W .any base t v := hval0
  have hW' := hW
  obtain ⟨p, q, hA0, hV, rfl, hfz, hnd⟩ := hW
  have hA : DataW.TrodAll enc Try.prog W 0 (fun _ => true) true Try.f5.params.toList args.toList ds p := hA0
  rw [Try.params5] at hA hval
  obtain ⟨v0, vs0, d0, ds0, p0, q0, hargs, rfl, rfl, h0, r0⟩ := trodAll_cons hA
  obtain ⟨v1, vs1, d1, ds1, p1, q1, rfl, rfl, rfl, h1, r1⟩ := trodAll_cons r0
  obtain ⟨v2, vs2, d2, ds2, p2, q2, rfl, rfl, rfl, h2, r2⟩ := trodAll_cons r1
  obtain ⟨rfl, rfl, rfl⟩ := trodAll_nil r2
  obtain rfl : args = #[v0, v1, v2] := by cases args; simp_all
  obtain ⟨rfl, rfl⟩ := trodVars_none hV
  have k0 := h0
  have lt0 : ∀ x ∈ p0, x.block < W.heap.size := by obtain ⟨m, hm⟩ := k0; exact DataW.trod_lt m _ _ _ hm
  obtain ⟨cs0, rfl, _⟩ := okWide_struct Try.underlying34 (hval 0 34 v0 rfl rfl)
  obtain ⟨x0, hK0, y0⟩ := op_of (op0 W) h0
  have hK0' : (Kd.slice 3 (Kd.int .i64)).K W x0 cs0.toList := by simpa only [Value.cells] using hK0
  clear hK0
  obtain ⟨A0_0, c0_0, hcs0, l0_0, g0_0⟩ := hK0'
  obtain rfl : cs0 = #[.slice A0_0 x0.length c0_0] := by cases cs0; simpa using hcs0
  have k1 := h1
  have lt1 : ∀ x ∈ p1, x.block < W.heap.size := by obtain ⟨m, hm⟩ := k1; exact DataW.trod_lt m _ _ _ hm
  obtain ⟨cs1, rfl, _⟩ := okWide_struct Try.underlying37 (hval 1 37 v1 rfl rfl)
  obtain ⟨x1, hK1, y1⟩ := op_of (op1 W) h1
  have hK1' : (Kd.pair (Kd.slice 39 k39) (Kd.int .i64)).K W x1 cs1.toList := by simpa only [Value.cells] using hK1
  clear hK1
  obtain ⟨_, _, hcs1, ⟨A1_0, c1_0, rfl, l1_0, g1_0⟩, rfl⟩ := hK1'
  obtain rfl : cs1 = #[.slice A1_0 x1.1.length c1_0, .int .i64 x1.2] := by cases cs1; simpa using hcs1
  have k2 := h2
  have lt2 : ∀ x ∈ p2, x.block < W.heap.size := by obtain ⟨m, hm⟩ := k2; exact DataW.trod_lt m _ _ _ hm
  obtain ⟨cs2, rfl, _⟩ := okWide_struct Try.underlying41 (hval 2 41 v2 rfl rfl)
  obtain ⟨x2, hK2, y2⟩ := op_of (op2 W) h2
  have hK2' : (Kd.pair Kd.bool (Kd.pair (Kd.int .i64) (Kd.slice 3 (Kd.int .i64)))).K W x2 cs2.toList := by simpa only [Value.cells] using hK2
  clear hK2
  obtain ⟨_, _, hcs2, rfl, ⟨_, _, rfl, rfl, ⟨A2_2, c2_2, rfl, l2_2, g2_2⟩⟩⟩ := hK2'
  obtain rfl : cs2 = #[.bool x2.1, .int .i64 x2.2.1, .slice A2_2 x2.2.2.length c2_2] := by cases cs2; simpa using hcs2
  obtain ⟨k, hk⟩ := Pure.FnExactApplyChange x0 x1.1 x1.2 x2.1 x2.2.1 x2.2.2 y0 y1.1 y1.2 y2.2.1 y2.2.2
  refine (laws_FnExactApplyChange.calls k _ _ x0 _ _ x1.1 x1.2 x2.1 x2.2.1 _ _ x2.2.2 W g0_0 l0_0 g1_0 l1_0 g2_2 l2_2 hk).mono fun e W' ⟨he, bel0⟩ => ?_
  have bel : Below W.heap.size W W' := bel0
  subst he
  exact ⟨_, rfl, _, _, _, [], _, [], hW', trodAll_mk1 (shut_bool Try.underlying4 _), (trodAll_cons_mk (Below.trod laidOut (by kernel_rfl) (of_decide_eq_true (by kernel_rfl)) k0 bel lt0) (trodAll_cons_mk (Below.trod laidOut (by kernel_rfl) (of_decide_eq_true (by kernel_rfl)) k1 bel lt1) (trodAll_cons_mk (Below.trod laidOut (by kernel_rfl) (of_decide_eq_true (by kernel_rfl)) k2 bel lt2) trodAll_mk0))), rfl, bel.frame _, fun h => by cases h⟩
theorem over : Rows.fnExactApplyChangeRow.holds Try.pinned (OpenSpec.ofChange Rows.fnExactApplyChangeSpec) :=
  OpenClaim.holds_of_wide 5 Try.f5 rfl rfl rfl rfl rfl rfl rfl ⟨rfl, rfl, rfl, rfl, rfl⟩ rfl rfl rfl rfl rfl (by kernel_rfl) Try.func5 (by kernel_rfl)
    (of_decide_eq_true (by kernel_rfl)) (by unfold Func.isWrapper; first | (rw [if_pos (by decide +kernel)]; kernel_rfl) | (rw [if_neg (by decide +kernel)]; exact ⟨rfl, rfl⟩))
    (fun os started H enc _ => lifted os started H enc)
theorem proved : Rows.FnExactApplyChangeSaid := over
#print axioms proved
end Go.Proofs.Ytjglknoebaojgaa.fnExactApplyChange
namespace Go.Proofs.Ytjglknoebaojgaa
/-- The row, under a short name, for the claim. -/
theorem fnExactApplyChange_holds : Rows.FnExactApplyChangeSaid := fnExactApplyChange.proved
end Go.Proofs.Ytjglknoebaojgaa

