/- The row of FnExactAddCounts: called with whatever can be read as data it returns true and leaves its arguments as they were. Conditions: none. -/
import Derived.Test.YtmfifjbbjjdacaaRows
import Derived.Test.YtmfifjbbjjdacaaZAddM6
import Derived.Test.YtmfifjbbjjdacaaZAddM5
import Derived.WalkKit
import Derived.ProofKit
import Derived.OpenShut
import Derived.ChangeOld
import Derived.Below
import Derived.SizedLaws
namespace Go.Proofs.Ytmfifjbbjjdacaa.fnExactAddCounts
open Go.ChangeShapes Go.WideShapes Go.ChangeAt Go.RowKit Go.Proofs.Ytmfifjbbjjdacaa.V
set_option linter.unusedVariables false
theorem own : ownKnob Try.prog.godebug = none := by kernel_rfl
theorem laidOut : laidOutB Try.prog = true := by kernel_rfl
theorem op0 (w : World) : RdF (List (Cnt)) Try.prog w 22 := (rf_slice Try.underlying22 (by kernel_rfl) (by decide) (rf_s2 (fun a b => Cnt.mk a b) (fun _ _ => rfl) (fun _ _ h _ => h) Try.underlying78 rfl rfl (by kernel_rfl) (by kernel_rfl) (by kernel_rfl) (rf_slice Try.underlying32 (by kernel_rfl) (by decide) (rf_int Try.underlying3)) (rf_int Try.underlying3)))
theorem op1 (w : World) : RdF (List (Cnt)) Try.prog w 22 := (rf_slice Try.underlying22 (by kernel_rfl) (by decide) (rf_s2 (fun a b => Cnt.mk a b) (fun _ _ => rfl) (fun _ _ h _ => h) Try.underlying78 rfl rfl (by kernel_rfl) (by kernel_rfl) (by kernel_rfl) (rf_slice Try.underlying32 (by kernel_rfl) (by decide) (rf_int Try.underlying3)) (rf_int Try.underlying3)))
set_option maxRecDepth 100000 in
theorem lifted (os : Os) (started : os.Started) (H : Type) (enc : TypeId × Value → H) :
    ReturnsInHanded {} Try.checked os 3 .any (Rows.fnExactAddCountsSpec.pre6 enc Try.prog Try.f3 Rows.fnExactAddCountsRow.domain false) (Rows.fnExactAddCountsSpec.post enc Try.prog Try.f3 false true false false) := by
  refine returnsInHanded_of_change_sized (C := Try.checked) own started (by kernel_rfl) Try.func3
    (ChangeSpec.witness6 (enc := enc) (C := Try.checked) false ⟨#[], #[.slice none 0 0, .slice none 0 0], []⟩ 16 (by kernel_rfl) (by kernel_rfl) (by kernel_rfl) (by kernel_rfl)) ?_
  intro W base args ds gs before hval0 hW hcnd hsz0 _
  have hval : ∀ (j : Nat) t v, Try.f3.params[j]? = some t → args[j]? = some v → Value.okWide Try.prog W .any base t v := hval0
  have hW' := hW
  obtain ⟨p, q, hA0, hV, rfl, hfz, hnd⟩ := hW
  have hA : DataW.TrodAll enc Try.prog W 0 (fun _ => true) true Try.f3.params.toList args.toList ds p := hA0
  rw [Try.params3] at hA hval
  obtain ⟨v0, vs0, d0, ds0, p0, q0, hargs, rfl, rfl, h0, r0⟩ := trodAll_cons hA
  obtain ⟨v1, vs1, d1, ds1, p1, q1, rfl, rfl, rfl, h1, r1⟩ := trodAll_cons r0
  obtain ⟨rfl, rfl, rfl⟩ := trodAll_nil r1
  obtain rfl : args = #[v0, v1] := by cases args; simp_all
  obtain ⟨rfl, rfl⟩ := trodVars_none hV
  have k0 := h0
  have lt0 : ∀ x ∈ p0, x.block < W.heap.size := by obtain ⟨m, hm⟩ := k0; exact DataW.trod_lt m _ _ _ hm
  obtain ⟨b0, len0, cap0, rfl⟩ := okWide_slice Try.underlying22 (hval 0 22 v0 rfl rfl)
  obtain ⟨x0, rel0, y0⟩ := rd_of (op0 W) h0
  have k1 := h1
  have lt1 : ∀ x ∈ p1, x.block < W.heap.size := by obtain ⟨m, hm⟩ := k1; exact DataW.trod_lt m _ _ _ hm
  obtain ⟨b1, len1, cap1, rfl⟩ := okWide_slice Try.underlying22 (hval 1 22 v1 rfl rfl)
  obtain ⟨x1, rel1, y1⟩ := rd_of (op1 W) h1
  refine (law_done mixed givOk (lawAddCounts x0 x1 y0 y1) (RelL.cons (av_t rel0) (RelL.cons (av_t rel1) RelL.nil))).mono fun e W' ⟨he, bel⟩ => ?_
  subst he
  exact ⟨_, rfl, _, _, _, [], _, [], hW', trodAll_mk1 (shut_bool Try.underlying4 _), (trodAll_cons_mk (Below.trod laidOut (by kernel_rfl) (of_decide_eq_true (by kernel_rfl)) k0 bel lt0) (trodAll_cons_mk (Below.trod laidOut (by kernel_rfl) (of_decide_eq_true (by kernel_rfl)) k1 bel lt1) trodAll_mk0)), rfl, bel.frame _, fun h => by cases h⟩
theorem over : Rows.fnExactAddCountsRow.holds Try.pinned (OpenSpec.ofChange Rows.fnExactAddCountsSpec) :=
  OpenClaim.holds_of_wide 3 Try.f3 rfl rfl rfl rfl rfl rfl rfl ⟨rfl, rfl, rfl, rfl, rfl⟩ rfl rfl rfl rfl rfl (by kernel_rfl) Try.func3 (by kernel_rfl)
    (of_decide_eq_true (by kernel_rfl)) (by unfold Func.isWrapper; first | (rw [if_pos (by decide +kernel)]; kernel_rfl) | (rw [if_neg (by decide +kernel)]; exact ⟨rfl, rfl⟩))
    (fun os started H enc _ => lifted os started H enc)
theorem proved : Rows.FnExactAddCountsSaid := over
#print axioms proved
end Go.Proofs.Ytmfifjbbjjdacaa.fnExactAddCounts
namespace Go.Proofs.Ytmfifjbbjjdacaa
/-- The row, under a short name, for the claim. -/
theorem fnExactAddCounts_holds : Rows.FnExactAddCountsSaid := fnExactAddCounts.proved
end Go.Proofs.Ytmfifjbbjjdacaa

