/- The row of FnExactCheckCertificate: called with whatever can be read as data it returns true and leaves its arguments as they were. Conditions: none. -/
import Derived.Test.YtlehbgapjibeeaaRows
import Derived.Test.YtlehbgapjibeeaaZChkM8
import Derived.Test.YtlehbgapjibeeaaZChkM5
import Derived.WalkKit
import Derived.ProofKit
import Derived.OpenShut
import Derived.ChangeOld
import Derived.Below
import Derived.SizedLaws
namespace Go.Proofs.Ytlehbgapjibeeaa.fnExactCheckCertificate
open Go.ChangeShapes Go.WideShapes Go.ChangeAt Go.RowKit Go.Proofs.Ytlehbgapjibeeaa.V
set_option linter.unusedVariables false
theorem own : ownKnob Try.prog.godebug = none := by kernel_rfl
theorem laidOut : laidOutB Try.prog = true := by kernel_rfl
theorem op0 (w : World) : RdF (Sch) Try.prog w 24 := (rf_s1 (fun a => Sch.mk a) (fun _ => rfl) (fun _ h => h) Try.underlying24 rfl (by kernel_rfl) (by kernel_rfl) (rf_slice Try.underlying22 (by kernel_rfl) (by decide) (rf_int Try.underlying3)))
theorem op1 (w : World) : RdF (List (Qry)) Try.prog w 25 := (rf_slice Try.underlying25 (by kernel_rfl) (by decide) (rf_s2 (fun a b => Qry.mk a b) (fun _ _ => rfl) (fun _ _ h k => ⟨h, k⟩) Try.underlying28 rfl rfl (by kernel_rfl) (by kernel_rfl) (by kernel_rfl) (rf_slice Try.underlying22 (by kernel_rfl) (by decide) (rf_int Try.underlying3)) (rf_slice Try.underlying26 (by kernel_rfl) (by decide) (rf_s2 (fun a b => RA.mk a b) (fun _ _ => rfl) (fun _ _ _ h => h) Try.underlying93 rfl rfl (by kernel_rfl) (by kernel_rfl) (by kernel_rfl) (rf_int Try.underlying3) (rf_slice Try.underlying22 (by kernel_rfl) (by decide) (rf_int Try.underlying3))))))
theorem op2 (w : World) : RdF (Qry) Try.prog w 28 := (rf_s2 (fun a b => Qry.mk a b) (fun _ _ => rfl) (fun _ _ h k => ⟨h, k⟩) Try.underlying28 rfl rfl (by kernel_rfl) (by kernel_rfl) (by kernel_rfl) (rf_slice Try.underlying22 (by kernel_rfl) (by decide) (rf_int Try.underlying3)) (rf_slice Try.underlying26 (by kernel_rfl) (by decide) (rf_s2 (fun a b => RA.mk a b) (fun _ _ => rfl) (fun _ _ _ h => h) Try.underlying93 rfl rfl (by kernel_rfl) (by kernel_rfl) (by kernel_rfl) (rf_int Try.underlying3) (rf_slice Try.underlying22 (by kernel_rfl) (by decide) (rf_int Try.underlying3)))))
theorem op3 (w : World) : RdF (Crt) Try.prog w 30 := (rf_s3 (fun a b c => Crt.mk a b c) (fun _ _ _ => rfl) (fun _ _ _ h k l => ⟨h, k, l⟩) Try.underlying30 rfl rfl rfl (by kernel_rfl) (by kernel_rfl) (by kernel_rfl) (by kernel_rfl) (rf_s2 (fun a b => Qry.mk a b) (fun _ _ => rfl) (fun _ _ h k => ⟨h, k⟩) Try.underlying28 rfl rfl (by kernel_rfl) (by kernel_rfl) (by kernel_rfl) (rf_slice Try.underlying22 (by kernel_rfl) (by decide) (rf_int Try.underlying3)) (rf_slice Try.underlying26 (by kernel_rfl) (by decide) (rf_s2 (fun a b => RA.mk a b) (fun _ _ => rfl) (fun _ _ _ h => h) Try.underlying93 rfl rfl (by kernel_rfl) (by kernel_rfl) (by kernel_rfl) (rf_int Try.underlying3) (rf_slice Try.underlying22 (by kernel_rfl) (by decide) (rf_int Try.underlying3))))) (rf_slice Try.underlying22 (by kernel_rfl) (by decide) (rf_int Try.underlying3)) (rf_slice Try.underlying22 (by kernel_rfl) (by decide) (rf_int Try.underlying3)))
set_option maxRecDepth 100000 in
theorem lifted (os : Os) (started : os.Started) (H : Type) (enc : TypeId × Value → H) :
    ReturnsInHanded {} Try.checked os 3 .any (Rows.fnExactCheckCertificateSpec.pre6 enc Try.prog Try.f3 Rows.fnExactCheckCertificateRow.domain false) (Rows.fnExactCheckCertificateSpec.post enc Try.prog Try.f3 false true false false) := by
  refine returnsInHanded_of_change_sized (C := Try.checked) own started (by kernel_rfl) Try.func3
    (ChangeSpec.witness6 (enc := enc) (C := Try.checked) false ⟨#[], #[.agg #[.slice none 0 0], .slice none 0 0, .agg #[.slice none 0 0, .slice none 0 0], .agg #[.slice none 0 0, .slice none 0 0, .slice none 0 0, .slice none 0 0]], []⟩ 16 (by kernel_rfl) (by kernel_rfl) (by kernel_rfl) (by kernel_rfl)) ?_
  intro W base args ds gs before hval0 hW hcnd hsz0 _
  have hval : ∀ (j : Nat) t v, Try.f3.params[j]? = some t → args[j]? = some v → Value.okWide Try.prog W .any base t v := hval0
  have hW' := hW
  obtain ⟨p, q, hA0, hV, rfl, hfz, hnd⟩ := hW
  have hA : DataW.TrodAll enc Try.prog W 0 (fun _ => true) true Try.f3.params.toList args.toList ds p := hA0
  rw [Try.params3] at hA hval
  obtain ⟨v0, vs0, d0, ds0, p0, q0, hargs, rfl, rfl, h0, r0⟩ := trodAll_cons hA
  obtain ⟨v1, vs1, d1, ds1, p1, q1, rfl, rfl, rfl, h1, r1⟩ := trodAll_cons r0
  obtain ⟨v2, vs2, d2, ds2, p2, q2, rfl, rfl, rfl, h2, r2⟩ := trodAll_cons r1
  obtain ⟨v3, vs3, d3, ds3, p3, q3, rfl, rfl, rfl, h3, r3⟩ := trodAll_cons r2
  obtain ⟨rfl, rfl, rfl⟩ := trodAll_nil r3
  obtain rfl : args = #[v0, v1, v2, v3] := by cases args; simp_all
  obtain ⟨rfl, rfl⟩ := trodVars_none hV
  have k0 := h0
  have lt0 : ∀ x ∈ p0, x.block < W.heap.size := by obtain ⟨m, hm⟩ := k0; exact DataW.trod_lt m _ _ _ hm
  obtain ⟨cs0, rfl, _⟩ := okWide_struct Try.underlying24 (hval 0 24 v0 rfl rfl)
  obtain ⟨x0, rel0, y0⟩ := rd_of (op0 W) h0
  have k1 := h1
  have lt1 : ∀ x ∈ p1, x.block < W.heap.size := by obtain ⟨m, hm⟩ := k1; exact DataW.trod_lt m _ _ _ hm
  obtain ⟨b1, len1, cap1, rfl⟩ := okWide_slice Try.underlying25 (hval 1 25 v1 rfl rfl)
  obtain ⟨x1, rel1, y1⟩ := rd_of (op1 W) h1
  have k2 := h2
  have lt2 : ∀ x ∈ p2, x.block < W.heap.size := by obtain ⟨m, hm⟩ := k2; exact DataW.trod_lt m _ _ _ hm
  obtain ⟨cs2, rfl, _⟩ := okWide_struct Try.underlying28 (hval 2 28 v2 rfl rfl)
  obtain ⟨x2, rel2, y2⟩ := rd_of (op2 W) h2
  have k3 := h3
  have lt3 : ∀ x ∈ p3, x.block < W.heap.size := by obtain ⟨m, hm⟩ := k3; exact DataW.trod_lt m _ _ _ hm
  obtain ⟨cs3, rfl, _⟩ := okWide_struct Try.underlying30 (hval 3 30 v3 rfl rfl)
  obtain ⟨x3, rel3, y3⟩ := rd_of (op3 W) h3
  refine (law_done mixed givOk (lawCheckCertificate x0 x1 x2 x3 y0 y1 y2 y3) (RelL.cons (av_agg rel0) (RelL.cons (av_t rel1) (RelL.cons (av_agg rel2) (RelL.cons (av_agg rel3) RelL.nil))))).mono fun e W' ⟨he, bel⟩ => ?_
  subst he
  exact ⟨_, rfl, _, _, _, [], _, [], hW', trodAll_mk1 (shut_bool Try.underlying4 _), (trodAll_cons_mk (Below.trod laidOut (by kernel_rfl) (of_decide_eq_true (by kernel_rfl)) k0 bel lt0) (trodAll_cons_mk (Below.trod laidOut (by kernel_rfl) (of_decide_eq_true (by kernel_rfl)) k1 bel lt1) (trodAll_cons_mk (Below.trod laidOut (by kernel_rfl) (of_decide_eq_true (by kernel_rfl)) k2 bel lt2) (trodAll_cons_mk (Below.trod laidOut (by kernel_rfl) (of_decide_eq_true (by kernel_rfl)) k3 bel lt3) trodAll_mk0)))), rfl, bel.frame _, fun h => by cases h⟩
set_option maxHeartbeats 40000000
set_option maxRecDepth 100000
theorem and_mk {a b : Bool} (h : a = true) (k : b = true) : (a && b) = true := by rw [h, k]; rfl
theorem closed : joinedFacts Try.pinned.checked.prog 3 Try.f3 Rows.fnExactCheckCertificateSpec Rows.fnExactCheckCertificateRow = true := by
  unfold joinedFacts
  iterate 31 (with_reducible refine and_mk ?_ ?_)
  all_goals (as_aux_lemma => kernel_rfl)
theorem over : Rows.fnExactCheckCertificateRow.holds Try.pinned (OpenSpec.ofChange Rows.fnExactCheckCertificateSpec) :=
  OpenClaim.holds_of_wide 3 Try.f3 rfl rfl rfl rfl rfl rfl rfl ⟨rfl, rfl, rfl, rfl, rfl⟩ rfl rfl rfl rfl rfl (by as_aux_lemma => kernel_rfl) Try.func3 closed
    (of_decide_eq_true (by as_aux_lemma => kernel_rfl)) (by as_aux_lemma => unfold Func.isWrapper; first | (rw [if_pos (by decide +kernel)]; kernel_rfl) | (rw [if_neg (by decide +kernel)]; exact ⟨rfl, rfl⟩))
    (fun os started H enc _ => lifted os started H enc)
theorem proved : Rows.FnExactCheckCertificateSaid := over
#print axioms proved
end Go.Proofs.Ytlehbgapjibeeaa.fnExactCheckCertificate
namespace Go.Proofs.Ytlehbgapjibeeaa
/-- The row, under a short name, for the claim. -/
theorem fnExactCheckCertificate_holds : Rows.FnExactCheckCertificateSaid := fnExactCheckCertificate.proved
end Go.Proofs.Ytlehbgapjibeeaa

