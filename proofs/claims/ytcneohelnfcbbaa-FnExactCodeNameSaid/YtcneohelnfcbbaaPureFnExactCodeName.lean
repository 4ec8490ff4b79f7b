/- FnExactCodeName, in plain Lean: for every number the law's function comes to true. Conditions: none. -/
import Derived.Test.YtcneohelnfcbbaaPx1
import Derived.Test.YtcneohelnfcbbaaPIn
namespace Go.Proofs.Ytcneohelnfcbbaa.Pure
open Go.RowKit Go.Proofs.Ytcneohelnfcbbaa.P Go.Proofs.YtcneohelnfcbbaaW.PrintWords Go.Proofs.YtcneohelnfcbbaaW.PrintLast Go.Proofs.Ytcneohelnfcbbaa.PB Go.Proofs.Ytcneohelnfcbbaa.PIn
theorem FnExactCodeName : ∀ (a0 : Int), ((Lit.int .i64 a0).wf = true) → laws_FnExactCodeName.f a0 = some true := by
  intro a _
  unfold laws_FnExactCodeName.f spec_CodeName.f impl_CodeName.f
  simp only [spec_in, impl_in, Option.bind_some]
  by_cases h : inr a 0 3 = true
  · have h' : 0 ≤ a ∧ a ≤ 3 := by simpa [inr] using h
    simp only [h, if_true, if_pos h'.1]
    rw [if_pos (by simp; omega)]
    simp
  · simp [h]
end Go.Proofs.Ytcneohelnfcbbaa.Pure
