/- The row of FnExactEqualCaches: called with whatever can be read as data it returns true and leaves its arguments as they were. Conditions: none. -/
import Derived.Test.YtjiipeidginjnaaRows
import Derived.Test.YtjiipeidginjnaaZEqcQx9
import Derived.Test.YtjiipeidginjnaaZEqcM18
import Derived.WalkKit
import Derived.ProofKit
import Derived.OpenShut
import Derived.ShutString
import Derived.ChangeOld
import Derived.Below
import Derived.SizedLaws
namespace Go.Proofs.Ytjiipeidginjnaa.fnExactEqualCaches
open Go.ChangeShapes Go.WideShapes Go.ChangeAt Go.RowKit Go.Proofs.Ytjiipeidginjnaa.Opens Go.Proofs.YtjiipeidginjnaaW.PrintWords Go.Proofs.Ytjiipeidginjnaa.Q
open Go.ChangeMaps (open_string shut_string)
set_option linter.unusedVariables false
theorem own : ownKnob Try.prog.godebug = none := by kernel_rfl
theorem laidOut : laidOutB Try.prog = true := by kernel_rfl
theorem op0 (w : World) : Rdd Try.prog w 56 (Kd.pair (Kd.slice 65 k65) (Kd.pair (Kd.slice 127 (Kd.slice 34 (Kd.slice 3 (Kd.int .i64)))) (Kd.int .i64))) (fun x => (x.1.length ≤ 9223372036854775807 ∧ ∀ e0 ∈ x.1, (e0.f0.length ≤ 9223372036854775807 ∧ ∀ e1 ∈ e0.f0, (Lit.int .i64 e1).wf = true) ∧ (e0.f1.length ≤ 9223372036854775807 ∧ ∀ e1 ∈ e0.f1, ((Lit.int .i64 e1.f0).wf = true) ∧ (e1.f1.length ≤ 9223372036854775807 ∧ ∀ e2 ∈ e1.f1, (Lit.int .i64 e2).wf = true))) ∧ (x.2.1.length ≤ 9223372036854775807 ∧ ∀ e0 ∈ x.2.1, e0.length ≤ 9223372036854775807 ∧ ∀ e1 ∈ e0, e1.length ≤ 9223372036854775807 ∧ ∀ e2 ∈ e1, (Lit.int .i64 e2).wf = true) ∧ ((Lit.int .i64 x.2.2).wf = true)) :=
  op_mono (op_struct3 Try.underlying56 rfl rfl rfl (by kernel_rfl) (by kernel_rfl) (by kernel_rfl) (by kernel_rfl) (op_slice Try.underlying33 (by kernel_rfl) (op_iso _ (fun a => ⟨a.1, a.2⟩) (fun _ => rfl) (op_struct2 Try.underlying65 rfl rfl (by kernel_rfl) (by kernel_rfl) (by kernel_rfl) (op_slice Try.underlying34 (by kernel_rfl) (op_int Try.underlying3)) (op_slice Try.underlying63 (by kernel_rfl) (op_iso _ (fun a => ⟨a.1, a.2⟩) (fun _ => rfl) (op_struct2 Try.underlying175 rfl rfl (by kernel_rfl) (by kernel_rfl) (by kernel_rfl) (op_int Try.underlying3) (op_slice Try.underlying34 (by kernel_rfl) (op_int Try.underlying3)))))))) (op_slice Try.underlying54 (by kernel_rfl) (op_slice Try.underlying127 (by kernel_rfl) (op_slice Try.underlying34 (by kernel_rfl) (op_int Try.underlying3)))) (op_int Try.underlying3)) (fun _ h => by simpa only [and_assoc] using h)
theorem op1 (w : World) : Rdd Try.prog w 56 (Kd.pair (Kd.slice 65 k65) (Kd.pair (Kd.slice 127 (Kd.slice 34 (Kd.slice 3 (Kd.int .i64)))) (Kd.int .i64))) (fun x => (x.1.length ≤ 9223372036854775807 ∧ ∀ e0 ∈ x.1, (e0.f0.length ≤ 9223372036854775807 ∧ ∀ e1 ∈ e0.f0, (Lit.int .i64 e1).wf = true) ∧ (e0.f1.length ≤ 9223372036854775807 ∧ ∀ e1 ∈ e0.f1, ((Lit.int .i64 e1.f0).wf = true) ∧ (e1.f1.length ≤ 9223372036854775807 ∧ ∀ e2 ∈ e1.f1, (Lit.int .i64 e2).wf = true))) ∧ (x.2.1.length ≤ 9223372036854775807 ∧ ∀ e0 ∈ x.2.1, e0.length ≤ 9223372036854775807 ∧ ∀ e1 ∈ e0, e1.length ≤ 9223372036854775807 ∧ ∀ e2 ∈ e1, (Lit.int .i64 e2).wf = true) ∧ ((Lit.int .i64 x.2.2).wf = true)) :=
  op_mono (op_struct3 Try.underlying56 rfl rfl rfl (by kernel_rfl) (by kernel_rfl) (by kernel_rfl) (by kernel_rfl) (op_slice Try.underlying33 (by kernel_rfl) (op_iso _ (fun a => ⟨a.1, a.2⟩) (fun _ => rfl) (op_struct2 Try.underlying65 rfl rfl (by kernel_rfl) (by kernel_rfl) (by kernel_rfl) (op_slice Try.underlying34 (by kernel_rfl) (op_int Try.underlying3)) (op_slice Try.underlying63 (by kernel_rfl) (op_iso _ (fun a => ⟨a.1, a.2⟩) (fun _ => rfl) (op_struct2 Try.underlying175 rfl rfl (by kernel_rfl) (by kernel_rfl) (by kernel_rfl) (op_int Try.underlying3) (op_slice Try.underlying34 (by kernel_rfl) (op_int Try.underlying3)))))))) (op_slice Try.underlying54 (by kernel_rfl) (op_slice Try.underlying127 (by kernel_rfl) (op_slice Try.underlying34 (by kernel_rfl) (op_int Try.underlying3)))) (op_int Try.underlying3)) (fun _ h => by simpa only [and_assoc] using h)
set_option maxRecDepth 100000 in
theorem lifted (os : Os) (started : os.Started) (H : Type) (enc : TypeId × Value → H) :
    ReturnsInHanded {} Try.checked os 6 .any (Rows.fnExactEqualCachesSpec.pre6 enc Try.prog Try.f6 Rows.fnExactEqualCachesRow.domain false) (Rows.fnExactEqualCachesSpec.post enc Try.prog Try.f6 false true false false) := by
  refine returnsInHanded_of_change_sized (C := Try.checked) own started (by kernel_rfl) Try.func6
    (ChangeSpec.witness6 (enc := enc) (C := Try.checked) false ⟨#[], #[.agg #[.slice none 0 0, .slice none 0 0, .int .i64 0], .agg #[.slice none 0 0, .slice none 0 0, .int .i64 0]], []⟩ 16 (by kernel_rfl) (by kernel_rfl) (by kernel_rfl) (by kernel_rfl)) ?_
  intro W base args ds gs before hval0 hW hcnd hsz0 _
  have hval : ∀ (j : Nat) t v, Try.f6.params[j]? = some t → args[j]? = some v → Value.okWide Try.prog W .any base t v := hval0
  have hW' := hW
  obtain ⟨p, q, hA0, hV, rfl, hfz, hnd⟩ := hW
  have hA : DataW.TrodAll enc Try.prog W 0 (fun _ => true) true Try.f6.params.toList args.toList ds p := hA0
  rw [Try.params6] at hA hval
  obtain ⟨v0, vs0, d0, ds0, p0, q0, hargs, rfl, rfl, h0, r0⟩ := trodAll_cons hA
  obtain ⟨v1, vs1, d1, ds1, p1, q1, rfl, rfl, rfl, h1, r1⟩ := trodAll_cons r0
  obtain ⟨rfl, rfl, rfl⟩ := trodAll_nil r1
  obtain rfl : args = #[v0, v1] := by cases args; simp_all
  obtain ⟨rfl, rfl⟩ := trodVars_none hV
  have k0 := h0
  have lt0 : ∀ x ∈ p0, x.block < W.heap.size := by obtain ⟨m, hm⟩ := k0; exact DataW.trod_lt m _ _ _ hm
  obtain ⟨cs0, rfl, _⟩ := okWide_struct Try.underlying56 (hval 0 56 v0 rfl rfl)
  obtain ⟨x0, hK0, y0⟩ := op_of (op0 W) h0
  have hK0' : (Kd.pair (Kd.slice 65 k65) (Kd.pair (Kd.slice 127 (Kd.slice 34 (Kd.slice 3 (Kd.int .i64)))) (Kd.int .i64))).K W x0 cs0.toList := by simpa only [Value.cells] using hK0
  clear hK0
  obtain ⟨_, _, hcs0, ⟨A0_0, c0_0, rfl, l0_0, g0_0⟩, ⟨_, _, rfl, ⟨A0_1, c0_1, rfl, l0_1, g0_1⟩, rfl⟩⟩ := hK0'
  obtain rfl : cs0 = #[.slice A0_0 x0.1.length c0_0, .slice A0_1 x0.2.1.length c0_1, .int .i64 x0.2.2] := by cases cs0; simpa using hcs0
  have k1 := h1
  have lt1 : ∀ x ∈ p1, x.block < W.heap.size := by obtain ⟨m, hm⟩ := k1; exact DataW.trod_lt m _ _ _ hm
  obtain ⟨cs1, rfl, _⟩ := okWide_struct Try.underlying56 (hval 1 56 v1 rfl rfl)
  obtain ⟨x1, hK1, y1⟩ := op_of (op1 W) h1
  have hK1' : (Kd.pair (Kd.slice 65 k65) (Kd.pair (Kd.slice 127 (Kd.slice 34 (Kd.slice 3 (Kd.int .i64)))) (Kd.int .i64))).K W x1 cs1.toList := by simpa only [Value.cells] using hK1
  clear hK1
  obtain ⟨_, _, hcs1, ⟨A1_0, c1_0, rfl, l1_0, g1_0⟩, ⟨_, _, rfl, ⟨A1_1, c1_1, rfl, l1_1, g1_1⟩, rfl⟩⟩ := hK1'
  obtain rfl : cs1 = #[.slice A1_0 x1.1.length c1_0, .slice A1_1 x1.2.1.length c1_1, .int .i64 x1.2.2] := by cases cs1; simpa using hcs1
  obtain ⟨k, hk⟩ := Pure.FnExactEqualCaches x0.1 x0.2.1 x0.2.2 x1.1 x1.2.1 x1.2.2 y0.1 y0.2.1 y0.2.2 y1.1 y1.2.1 y1.2.2
  refine (laws_FnExactEqualCaches.calls k _ _ x0.1 _ _ x0.2.1 x0.2.2 _ _ x1.1 _ _ x1.2.1 x1.2.2 W g0_0 l0_0 g0_1 l0_1 g1_0 l1_0 g1_1 l1_1 hk).mono fun e W' ⟨he, bel0⟩ => ?_
  have bel : Below W.heap.size W W' := bel0
  subst he
  exact ⟨_, rfl, _, _, _, [], _, [], hW', trodAll_mk1 (shut_bool Try.underlying4 _), (trodAll_cons_mk (Below.trod laidOut (by kernel_rfl) (of_decide_eq_true (by kernel_rfl)) k0 bel lt0) (trodAll_cons_mk (Below.trod laidOut (by kernel_rfl) (of_decide_eq_true (by kernel_rfl)) k1 bel lt1) trodAll_mk0)), rfl, bel.frame _, fun h => by cases h⟩
theorem over : Rows.fnExactEqualCachesRow.holds Try.pinned (OpenSpec.ofChange Rows.fnExactEqualCachesSpec) :=
  OpenClaim.holds_of_wide 6 Try.f6 rfl rfl rfl rfl rfl rfl rfl ⟨rfl, rfl, rfl, rfl, rfl⟩ rfl rfl rfl rfl rfl (by kernel_rfl) Try.func6 (by kernel_rfl)
    (of_decide_eq_true (by kernel_rfl)) (by unfold Func.isWrapper; first | (rw [if_pos (by decide +kernel)]; kernel_rfl) | (rw [if_neg (by decide +kernel)]; exact ⟨rfl, rfl⟩))
    (fun os started H enc _ => lifted os started H enc)
theorem proved : Rows.FnExactEqualCachesSaid := over
#print axioms proved
end Go.Proofs.Ytjiipeidginjnaa.fnExactEqualCaches
namespace Go.Proofs.Ytjiipeidginjnaa
/-- The row, under a short name, for the claim. -/
theorem fnExactEqualCaches_holds : Rows.FnExactEqualCachesSaid := fnExactEqualCaches.proved
end Go.Proofs.Ytjiipeidginjnaa

