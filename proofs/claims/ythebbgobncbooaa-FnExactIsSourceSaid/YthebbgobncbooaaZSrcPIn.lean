/- Out of YthebbgobncbooaaPIn: what the claim needs of it. Conditions: each declaration's own. -/
import Derived.Test.YthebbgobncbooaaZSrcPx1
import Derived.Test.YthebbgobncbooaaZSrcPx2
import Derived.Test.YthebbgobncbooaaZSrcPBase
namespace Go.Proofs.Ythebbgobncbooaa.PIn
open Go.RowKit Go.Proofs.Ythebbgobncbooaa.P Go.Proofs.YthebbgobncbooaaW.PrintWords Go.Proofs.YthebbgobncbooaaW.PrintLast Go.Proofs.Ythebbgobncbooaa.PB
set_option linter.unusedVariables false

def inr (a lo hi : Int) : Bool := decide (lo ≤ a ∧ a ≤ hi)
theorem spec_in (a lo hi : Int) : spec_l1In.f a lo hi = some (inr a lo hi) := by
  unfold spec_l1In.f inr
  by_cases h : a ≥ lo
  · rw [if_pos h]; by_cases h2 : a ≤ hi <;> simp [h2] <;> omega
  · rw [if_neg h]; simp; omega
theorem impl_in (a lo hi : Int) : impl_within.f a lo hi = some (inr a lo hi) := by
  unfold impl_within.f inr
  by_cases h : a ≥ lo
  · rw [if_pos h]; by_cases h2 : a ≤ hi <;> simp [h2] <;> omega
  · rw [if_neg h]; simp; omega
end Go.Proofs.Ythebbgobncbooaa.PIn

