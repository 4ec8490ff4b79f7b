/- FnExactFormatTuples, in plain Lean: for every list of lists of numbers the law's function comes to true. Conditions: what can be read as data. -/
import Derived.Test.YtcneohelnfcbbaaPx4
import Derived.Test.YtcneohelnfcbbaaPTup
namespace Go.Proofs.Ytcneohelnfcbbaa.Pure
open Go.RowKit Go.Proofs.Ytcneohelnfcbbaa.P Go.Proofs.YtcneohelnfcbbaaW.PrintWords Go.Proofs.YtcneohelnfcbbaaW.PrintLast Go.Proofs.Ytcneohelnfcbbaa.PB Go.Proofs.Ytcneohelnfcbbaa.PL Go.Proofs.Ytcneohelnfcbbaa.PTup
theorem FnExactFormatTuples : ∀ (x0 : List (List Int)), (x0.length ≤ 9223372036854775807 ∧ ∀ x3 ∈ x0, x3.length ≤ 9223372036854775807 ∧ ∀ x4 ∈ x3, (Lit.int .i64 x4).wf = true) → ∃ k, laws_FnExactFormatTuples.f k x0 = some true := by
  intro l ⟨hl, hq⟩
  apply Ev.rounds
  have hz := szIntSS l 1048576 (by omega) (by omega) hl (fun x hx => (hq x hx).1)
  unfold laws_FnExactFormatTuples.f
  by_cases h : 1048576 < l.length + tot l
  · rw [if_pos (by omega)] at hz
    exact Ev.bind hz (Ev.pos (by omega) (Ev.const rfl))
  · rw [if_neg (by omega)] at hz
    have hb : ∀ x ∈ l, x.length ≤ 1048576 := fun x hx => by have := tot_mem hx; omega
    have hw : ∀ v ∈ l, ∀ x ∈ v, (Lit.int .i64 x).wf = true := fun v hv => (hq v hv).2
    have ht := toIntSS l (by omega) (fun x hx => by have := hb x hx; omega)
    have he := eqIntSS l (by omega) (fun x hx => by have := hb x hx; omega)
    exact Ev.bind hz (Ev.neg (by omega) (Ev.bind ht (Ev.bind (spec_tuples l (by omega) hw) (Ev.bind ht (Ev.bind (impl_tuples l (by omega) hw) (Ev.pos rfl (Ev.bind ht (Ev.bind he (Ev.pos rfl (Ev.const rfl))))))))))
end Go.Proofs.Ytcneohelnfcbbaa.Pure
