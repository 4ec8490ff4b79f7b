/- Out of YthebbgobncbooaaPSchema: what the claim needs of it. Conditions: each declaration's own. -/
import Derived.Test.YthebbgobncbooaaZSrcPx10
import Derived.Test.YthebbgobncbooaaZSrcPx6
import Derived.Test.YthebbgobncbooaaZSrcPIn
namespace Go.Proofs.Ythebbgobncbooaa.PSchema
open Go.RowKit Go.Proofs.Ythebbgobncbooaa.P Go.Proofs.YthebbgobncbooaaW.PrintWords Go.Proofs.YthebbgobncbooaaW.PrintLast Go.Proofs.Ythebbgobncbooaa.PB Go.Proofs.Ythebbgobncbooaa.PIn
set_option linter.unusedVariables false
def isSchema (l : List Int) : Bool := (l.all fun n => inr n 1 3) && inr l.length 1 4
theorem all_cons {α : Type} (p : α → Bool) (x : α) (r : List α) : (x :: r).all p = (p x && r.all p) := rfl
theorem spec_schema (l : List Int) (hl : l.length ≤ 1048576) : Ev (fun k => spec_IsSchema.f k l) (isSchema l) := by
  have loop : ∀ (d i : Nat), i + d = l.length → Ev (fun k => spec_IsSchema.l0 k (i : Int) l) (((l.drop i).all fun n => inr n 1 3) && inr l.length 1 4) := by
    intro d
    induction d with
    | zero =>
      intro i hi
      obtain rfl : i = l.length := by omega
      refine Ev.step (fun k => by rw [spec_IsSchema.l0]) (Ev.neg (by omega) (Ev.bindc (spec_in _ _ _) (Ev.const ?_)))
      simp
    | succ d ih =>
      intro i hi
      have hlt : i < l.length := by omega
      refine Ev.step (fun k => by rw [spec_IsSchema.l0]) (Ev.pos (by omega) (Ev.pos (by omega) ?_))
      rw [rd_nat _ _ hlt, inc (by omega), drop_cons hlt, all_cons]
      refine Ev.bindc (spec_in _ _ _) ?_
      cases h : inr l[i] 1 3 with
      | true => exact Ev.pos rfl (Ev.eq (ih (i + 1) (by omega)) rfl (by simp only [Bool.true_and]))
      | false => exact Ev.neg (by simp) (Ev.const rfl)
  exact Ev.eq (loop l.length 0 (by omega)) (by funext k; rw [spec_IsSchema.f]; rfl) (by simp [isSchema])
theorem impl_schema (l : List Int) (hl : l.length ≤ 1048576) : Ev (fun k => impl_IsSchema.f k l) (isSchema l) := by
  have loop : ∀ (d i : Nat), i + d = l.length → Ev (fun k => impl_IsSchema.l0 k l (l.length : Int) (i : Int) l) (((l.drop i).all fun n => inr n 1 3) && inr l.length 1 4) := by
    intro d
    induction d with
    | zero =>
      intro i hi
      obtain rfl : i = l.length := by omega
      refine Ev.step (fun k => by rw [impl_IsSchema.l0]) (Ev.neg (by omega) (Ev.bindc (impl_in _ _ _) (Ev.const ?_)))
      simp
    | succ d ih =>
      intro i hi
      have hlt : i < l.length := by omega
      refine Ev.step (fun k => by rw [impl_IsSchema.l0]) (Ev.pos (by omega) (Ev.pos (by omega) (Ev.pos (by omega) ?_)))
      rw [rd_nat _ _ hlt, inc (by omega), drop_cons hlt, all_cons]
      refine Ev.bindc (impl_in _ _ _) ?_
      cases h : inr l[i] 1 3 with
      | true => exact Ev.pos rfl (Ev.eq (ih (i + 1) (by omega)) rfl (by simp only [Bool.true_and]))
      | false => exact Ev.neg (by simp) (Ev.const rfl)
  exact Ev.eq (loop l.length 0 (by omega)) (by funext k; rw [impl_IsSchema.f]; rfl) (by simp [isSchema])
/-- A valid schema has a relation with so many arguments. -/
def takes (s : List Int) (rel n : Int) : Bool := isSchema s && (inr rel 0 (s.length - 1) && (rd s rel == n))
end Go.Proofs.Ythebbgobncbooaa.PSchema

