/- The row of FnExactPickViews: called with whatever can be read as data it returns true and leaves its arguments as they were. Conditions: none. -/
import Derived.Test.YtjiipeidginjnaaRows
import Derived.Test.YtjiipeidginjnaaZPkvPxyFnExactPickViews
import Derived.Test.YtjiipeidginjnaaZPkvPureFnExactPickViews
import Derived.Test.YtjiipeidginjnaaZPkvM15
import Derived.WalkKit
import Derived.ProofKit
import Derived.OpenShut
import Derived.ShutString
import Derived.ChangeOld
import Derived.Below
import Derived.SizedLaws
namespace Go.Proofs.Ytjiipeidginjnaa.fnExactPickViews
open Go.ChangeShapes Go.WideShapes Go.ChangeAt Go.RowKit Go.Proofs.Ytjiipeidginjnaa.Opens Go.Proofs.YtjiipeidginjnaaW.PrintWords Go.Proofs.Ytjiipeidginjnaa.P
open Go.ChangeMaps (open_string shut_string)
set_option linter.unusedVariables false
theorem own : ownKnob Try.prog.godebug = none := by kernel_rfl
theorem laidOut : laidOutB Try.prog = true := by kernel_rfl
theorem op0 (w : World) : Rdd Try.prog w 33 (Kd.slice 65 k65) (fun x => x.length ≤ 9223372036854775807 ∧ ∀ e0 ∈ x, (e0.f0.length ≤ 9223372036854775807 ∧ ∀ e1 ∈ e0.f0, (Lit.int .i64 e1).wf = true) ∧ (e0.f1.length ≤ 9223372036854775807 ∧ ∀ e1 ∈ e0.f1, ((Lit.int .i64 e1.f0).wf = true) ∧ (e1.f1.length ≤ 9223372036854775807 ∧ ∀ e2 ∈ e1.f1, (Lit.int .i64 e2).wf = true))) :=
  op_mono (op_slice Try.underlying33 (by kernel_rfl) (op_iso _ (fun a => ⟨a.1, a.2⟩) (fun _ => rfl) (op_struct2 Try.underlying65 rfl rfl (by kernel_rfl) (by kernel_rfl) (by kernel_rfl) (op_slice Try.underlying34 (by kernel_rfl) (op_int Try.underlying3)) (op_slice Try.underlying63 (by kernel_rfl) (op_iso _ (fun a => ⟨a.1, a.2⟩) (fun _ => rfl) (op_struct2 Try.underlying175 rfl rfl (by kernel_rfl) (by kernel_rfl) (by kernel_rfl) (op_int Try.underlying3) (op_slice Try.underlying34 (by kernel_rfl) (op_int Try.underlying3)))))))) (fun _ h => h)
theorem op1 (w : World) : Rdd Try.prog w 34 (Kd.slice 3 (Kd.int .i64)) (fun x => x.length ≤ 9223372036854775807 ∧ ∀ e0 ∈ x, (Lit.int .i64 e0).wf = true) :=
  op_mono (op_slice Try.underlying34 (by kernel_rfl) (op_int Try.underlying3)) (fun _ h => h)
set_option maxRecDepth 100000 in
theorem lifted (os : Os) (started : os.Started) (H : Type) (enc : TypeId × Value → H) :
    ReturnsInHanded {} Try.checked os 4 .any (Rows.fnExactPickViewsSpec.pre6 enc Try.prog Try.f4 Rows.fnExactPickViewsRow.domain false) (Rows.fnExactPickViewsSpec.post enc Try.prog Try.f4 false true false false) := by
  refine returnsInHanded_of_change_sized (C := Try.checked) own started (by kernel_rfl) Try.func4
    (ChangeSpec.witness6 (enc := enc) (C := Try.checked) false ⟨#[], #[.slice none 0 0, .slice none 0 0], []⟩ 16 (by kernel_rfl) (by kernel_rfl) (by kernel_rfl) (by kernel_rfl)) ?_
  intro W base args ds gs before hval0 hW hcnd hsz0 _
  have hval : ∀ (j : Nat) t v, Try.f4.params[j]? = some t → args[j]? = some v → Value.okWide Try.prog W .any base t v := hval0
  have hW' := hW
  obtain ⟨p, q, hA0, hV, rfl, hfz, hnd⟩ := hW
  have hA : DataW.TrodAll enc Try.prog W 0 (fun _ => true) true Try.f4.params.toList args.toList ds p := hA0
  rw [Try.params4] at hA hval
  obtain ⟨v0, vs0, d0, ds0, p0, q0, hargs, rfl, rfl, h0, r0⟩ := trodAll_cons hA
  obtain ⟨v1, vs1, d1, ds1, p1, q1, rfl, rfl, rfl, h1, r1⟩ := trodAll_cons r0
  obtain ⟨rfl, rfl, rfl⟩ := trodAll_nil r1
  obtain rfl : args = #[v0, v1] := by cases args; simp_all
  obtain ⟨rfl, rfl⟩ := trodVars_none hV
  have k0 := h0
  have lt0 : ∀ x ∈ p0, x.block < W.heap.size := by obtain ⟨m, hm⟩ := k0; exact DataW.trod_lt m _ _ _ hm
  obtain ⟨b0, len0, cap0, rfl⟩ := okWide_slice Try.underlying33 (hval 0 33 v0 rfl rfl)
  obtain ⟨x0, ⟨A0, c0, hcs0, l0, g0⟩, y0⟩ := op_of (op0 W) h0
  obtain ⟨rfl, rfl, rfl⟩ : b0 = A0 ∧ len0 = x0.length ∧ cap0 = c0 := by simpa [Value.cells] using hcs0
  have k1 := h1
  have lt1 : ∀ x ∈ p1, x.block < W.heap.size := by obtain ⟨m, hm⟩ := k1; exact DataW.trod_lt m _ _ _ hm
  obtain ⟨b1, len1, cap1, rfl⟩ := okWide_slice Try.underlying34 (hval 1 34 v1 rfl rfl)
  obtain ⟨x1, ⟨A1, c1, hcs1, l1, g1⟩, y1⟩ := op_of (op1 W) h1
  obtain ⟨rfl, rfl, rfl⟩ : b1 = A1 ∧ len1 = x1.length ∧ cap1 = c1 := by simpa [Value.cells] using hcs1
  obtain ⟨k, hk⟩ := Pure.FnExactPickViews x0 x1 y0 y1
  refine (laws_FnExactPickViews.calls k _ _ x0 _ _ x1 W g0 l0 g1 l1 hk).mono fun e W' ⟨he, bel0⟩ => ?_
  have bel : Below W.heap.size W W' := bel0
  subst he
  exact ⟨_, rfl, _, _, _, [], _, [], hW', trodAll_mk1 (shut_bool Try.underlying4 _), (trodAll_cons_mk (Below.trod laidOut (by kernel_rfl) (of_decide_eq_true (by kernel_rfl)) k0 bel lt0) (trodAll_cons_mk (Below.trod laidOut (by kernel_rfl) (of_decide_eq_true (by kernel_rfl)) k1 bel lt1) trodAll_mk0)), rfl, bel.frame _, fun h => by cases h⟩
theorem over : Rows.fnExactPickViewsRow.holds Try.pinned (OpenSpec.ofChange Rows.fnExactPickViewsSpec) :=
  OpenClaim.holds_of_wide 4 Try.f4 rfl rfl rfl rfl rfl rfl rfl ⟨rfl, rfl, rfl, rfl, rfl⟩ rfl rfl rfl rfl rfl (by kernel_rfl) Try.func4 (by kernel_rfl)
    (of_decide_eq_true (by kernel_rfl)) (by unfold Func.isWrapper; first | (rw [if_pos (by decide +kernel)]; kernel_rfl) | (rw [if_neg (by decide +kernel)]; exact ⟨rfl, rfl⟩))
    (fun os started H enc _ => lifted os started H enc)
theorem proved : Rows.FnExactPickViewsSaid := over
#print axioms proved
end Go.Proofs.Ytjiipeidginjnaa.fnExactPickViews
namespace Go.Proofs.Ytjiipeidginjnaa
/-- The row, under a short name, for the claim. -/
theorem fnExactPickViews_holds : Rows.FnExactPickViewsSaid := fnExactPickViews.proved
end Go.Proofs.Ytjiipeidginjnaa

