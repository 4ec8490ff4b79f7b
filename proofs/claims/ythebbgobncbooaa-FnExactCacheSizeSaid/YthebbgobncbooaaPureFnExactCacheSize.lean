/- FnExactCacheSize, in plain Lean: for whatever can be read as data the law's function comes to true. Conditions: what can be read as data. -/
import Derived.Test.YthebbgobncbooaaPx18
import Derived.Test.YthebbgobncbooaaPCsize
import Derived.Test.YthebbgobncbooaaPLawCache
import Derived.Test.YthebbgobncbooaaPLawIntSSS
import Derived.Test.YthebbgobncbooaaPLawQuery
namespace Go.Proofs.Ythebbgobncbooaa.Pure
open Go.RowKit Go.Proofs.Ythebbgobncbooaa.P Go.Proofs.YthebbgobncbooaaW.PrintWords Go.Proofs.YthebbgobncbooaaW.PrintLast Go.Proofs.Ythebbgobncbooaa.PB Go.Proofs.Ythebbgobncbooaa.PLaw Go.Proofs.Ythebbgobncbooaa.PCsize
set_option linter.unusedVariables false
theorem FnExactCacheSize : ∀ (l0_0 : List (S89)) (l0_1 : List (List (List Int))) (a0_2 : Int), (qQueryS l0_0) → (qIntSSS l0_1) → ((Lit.int .i64 a0_2).wf = true) → ∃ k, laws_FnExactCacheSize.f k l0_0 l0_1 a0_2 = some true := by
  intro l0_0 l0_1 a0_2 ql0_0 ql0_1 qa0_2
  apply Ev.rounds
  unfold laws_FnExactCacheSize.f
  have z0 := szCache l0_0 l0_1 a0_2 1048576 (by omega) (by omega) ql0_0 ql0_1 qa0_2
  by_cases c0 : (1048576 : Int) < ((nQueryS l0_0 + nIntSSS l0_1 : Nat) : Int)
  · rw [if_pos c0] at z0
    exact Ev.bind z0 (Ev.pos (by omega) (Ev.const rfl))
  rw [if_neg c0] at z0
  refine Ev.bind z0 (Ev.neg (by omega) ?_)
  have sl0_0 : nQueryS l0_0 ≤ 1048576 := by omega
  have sl0_1 : nIntSSS l0_1 ≤ 1048576 := by omega
  have t0 := toCache l0_0 l0_1 a0_2 (by omega)
  have e0 := eqCache (cQueryS l0_0) (cIntSSS l0_1) a0_2 (mcQueryS (by omega)) (mcIntSSS (by omega))
  have hl : (cIntSSS l0_1).length ≤ 1048576 := by unfold cIntSSS; simp; unfold nIntSSS at sl0_1; omega
  have sp := spec_csize (cQueryS l0_0) (cIntSSS l0_1) a0_2 hl
  have im := impl_csize (cQueryS l0_0) (cIntSSS l0_1) a0_2 hl
  repeat' first
    | exact Ev.const rfl
    | refine Ev.pos rfl ?_
    | refine Ev.neg (by simp) ?_
    | refine Ev.bind t0 ?_
    | refine Ev.bind sp ?_
    | refine Ev.bind im ?_
    | refine Ev.bind e0 ?_
end Go.Proofs.Ythebbgobncbooaa.Pure
