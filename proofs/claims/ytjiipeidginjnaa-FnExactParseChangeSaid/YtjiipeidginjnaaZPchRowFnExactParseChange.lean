/- The row of FnExactParseChange: called with whatever can be read as data it returns true and leaves its arguments as they were. Conditions: none. -/
import Derived.Test.YtjiipeidginjnaaRows
import Derived.Test.YtjiipeidginjnaaZPchPx33
import Derived.Test.YtjiipeidginjnaaZPchM21
import Derived.WalkKit
import Derived.ProofKit
import Derived.OpenShut
import Derived.ShutString
import Derived.ChangeOld
import Derived.Below
import Derived.SizedLaws
namespace Go.Proofs.Ytjiipeidginjnaa.fnExactParseChange
open Go.ChangeShapes Go.WideShapes Go.ChangeAt Go.RowKit Go.Proofs.Ytjiipeidginjnaa.Opens Go.Proofs.YtjiipeidginjnaaW.PrintWords Go.Proofs.Ytjiipeidginjnaa.P
open Go.ChangeMaps (open_string shut_string)
set_option linter.unusedVariables false
theorem own : ownKnob Try.prog.godebug = none := by kernel_rfl
theorem laidOut : laidOutB Try.prog = true := by kernel_rfl
theorem op1 (w : World) : Rdd Try.prog w 9 Kd.string (fun x => x.size ≤ maxLen) :=
  op_mono (op_string Try.underlying9) (fun _ h => h)
theorem op0 (w : World) : Rdd Try.prog w 79 (Kd.slice 3 (Kd.int .i64)) (fun x => (x.length ≤ 9223372036854775807 ∧ ∀ e0 ∈ x, (Lit.int .i64 e0).wf = true)) :=
  op_mono (op_struct1 Try.underlying79 rfl (by kernel_rfl) (by kernel_rfl) (op_slice Try.underlying34 (by kernel_rfl) (op_int Try.underlying3))) (fun _ h => by simpa only [and_assoc] using h)
set_option maxRecDepth 100000 in
theorem lifted (os : Os) (started : os.Started) (H : Type) (enc : TypeId × Value → H) :
    ReturnsInHanded {} Try.checked os 8 .any (Rows.fnExactParseChangeSpec.pre6 enc Try.prog Try.f8 Rows.fnExactParseChangeRow.domain false) (Rows.fnExactParseChangeSpec.post enc Try.prog Try.f8 false true false false) := by
  refine returnsInHanded_of_change_sized (C := Try.checked) own started (by kernel_rfl) Try.func8
    (ChangeSpec.witness6 (enc := enc) (C := Try.checked) false ⟨#[], #[.agg #[.slice none 0 0], .string ByteArray.empty], []⟩ 16 (by kernel_rfl) (by kernel_rfl) (by kernel_rfl) (by kernel_rfl)) ?_
  intro W base args ds gs before hval0 hW hcnd hsz0 _
  have hval : ∀ (j : Nat) t v, Try.f8.params[j]? = some t → args[j]? = some v → Value.okWide Try.prog W .any base t v := hval0
  have hW' := hW
  obtain ⟨p, q, hA0, hV, rfl, hfz, hnd⟩ := hW
  have hA : DataW.TrodAll enc Try.prog W 0 (fun _ => true) true Try.f8.params.toList args.toList ds p := hA0
  rw [Try.params8] at hA hval
  obtain ⟨v0, vs0, d0, ds0, p0, q0, hargs, rfl, rfl, h0, r0⟩ := trodAll_cons hA
  obtain ⟨v1, vs1, d1, ds1, p1, q1, rfl, rfl, rfl, h1, r1⟩ := trodAll_cons r0
  obtain ⟨rfl, rfl, rfl⟩ := trodAll_nil r1
  obtain rfl : args = #[v0, v1] := by cases args; simp_all
  obtain ⟨rfl, rfl⟩ := trodVars_none hV
  have k0 := h0
  have lt0 : ∀ x ∈ p0, x.block < W.heap.size := by obtain ⟨m, hm⟩ := k0; exact DataW.trod_lt m _ _ _ hm
  obtain ⟨cs0, rfl, _⟩ := okWide_struct Try.underlying79 (hval 0 79 v0 rfl rfl)
  obtain ⟨x0, hK0, y0⟩ := op_of (op0 W) h0
  have hK0' : (Kd.slice 3 (Kd.int .i64)).K W x0 cs0.toList := by simpa only [Value.cells] using hK0
  clear hK0
  obtain ⟨A0_0, c0_0, hcs0, l0_0, g0_0⟩ := hK0'
  obtain rfl : cs0 = #[.slice A0_0 x0.length c0_0] := by cases cs0; simpa using hcs0
  have k1 := h1
  have lt1 : ∀ x ∈ p1, x.block < W.heap.size := by obtain ⟨m, hm⟩ := k1; exact DataW.trod_lt m _ _ _ hm
  obtain ⟨a1, rfl, _, _, y1⟩ := open_string Try.underlying9 (hval 1 9 v1 rfl rfl) h1
  obtain ⟨k, hk⟩ := Pure.FnExactParseChange x0 a1 y0 y1
  refine (laws_FnExactParseChange.calls k _ _ x0 a1 W g0_0 l0_0 hk).mono fun e W' ⟨he, bel0⟩ => ?_
  have bel : Below W.heap.size W W' := bel0
  subst he
  exact ⟨_, rfl, _, _, _, [], _, [], hW', trodAll_mk1 (shut_bool Try.underlying4 _), (trodAll_cons_mk (Below.trod laidOut (by kernel_rfl) (of_decide_eq_true (by kernel_rfl)) k0 bel lt0) (trodAll_cons_mk (Below.trod laidOut (by kernel_rfl) (of_decide_eq_true (by kernel_rfl)) k1 bel lt1) trodAll_mk0)), rfl, bel.frame _, fun h => by cases h⟩
theorem over : Rows.fnExactParseChangeRow.holds Try.pinned (OpenSpec.ofChange Rows.fnExactParseChangeSpec) :=
  OpenClaim.holds_of_wide 8 Try.f8 rfl rfl rfl rfl rfl rfl rfl ⟨rfl, rfl, rfl, rfl, rfl⟩ rfl rfl rfl rfl rfl (by kernel_rfl) Try.func8 (by kernel_rfl)
    (of_decide_eq_true (by kernel_rfl)) (by unfold Func.isWrapper; first | (rw [if_pos (by decide +kernel)]; kernel_rfl) | (rw [if_neg (by decide +kernel)]; exact ⟨rfl, rfl⟩))
    (fun os started H enc _ => lifted os started H enc)
theorem proved : Rows.FnExactParseChangeSaid := over
#print axioms proved
end Go.Proofs.Ytjiipeidginjnaa.fnExactParseChange
namespace Go.Proofs.Ytjiipeidginjnaa
/-- The row, under a short name, for the claim. -/
theorem fnExactParseChange_holds : Rows.FnExactParseChangeSaid := fnExactParseChange.proved
end Go.Proofs.Ytjiipeidginjnaa

