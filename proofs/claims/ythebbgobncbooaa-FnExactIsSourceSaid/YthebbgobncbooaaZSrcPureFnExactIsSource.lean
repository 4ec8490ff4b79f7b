/- Out of YthebbgobncbooaaPureFnExactIsSource: what the claim needs of it. Conditions: each declaration's own. -/
import Derived.Test.YthebbgobncbooaaZSrcPx13
import Derived.Test.YthebbgobncbooaaZSrcPDb
import Derived.Test.YthebbgobncbooaaZSrcPLawFact
import Derived.Test.YthebbgobncbooaaZSrcPLawIntS
import Derived.Test.YthebbgobncbooaaZSrcPLawSchema
import Derived.Test.YthebbgobncbooaaZSrcPLawSource
namespace Go.Proofs.Ythebbgobncbooaa.Pure
open Go.RowKit Go.Proofs.Ythebbgobncbooaa.P Go.Proofs.YthebbgobncbooaaW.PrintWords Go.Proofs.YthebbgobncbooaaW.PrintLast Go.Proofs.Ythebbgobncbooaa.PB Go.Proofs.Ythebbgobncbooaa.PLaw Go.Proofs.Ythebbgobncbooaa.PDb
set_option linter.unusedVariables false
theorem FnExactIsSource : ∀ (l0_0 : List Int) (l1_0 : List (S112)) (a1_1 : Int), (qIntS l0_0) → (qFactS l1_0) → ((Lit.int .i64 a1_1).wf = true) → ∃ k, laws_FnExactIsSource.f k l0_0 l1_0 a1_1 = some true := by
  intro l0_0 l1_0 a1_1 ql0_0 ql1_0 qa1_1
  apply Ev.rounds
  unfold laws_FnExactIsSource.f
  have z0 := szSchema l0_0 1048576 (by omega) (by omega) ql0_0
  by_cases c0 : (1048576 : Int) < ((nIntS l0_0 : Nat) : Int)
  · rw [if_pos c0] at z0
    exact Ev.bind z0 (Ev.pos (by omega) (Ev.const rfl))
  rw [if_neg c0] at z0
  refine Ev.bind z0 (Ev.neg (by omega) ?_)
  have z1 := szSource l1_0 a1_1 ((1048576 : Int) - ((nIntS l0_0 : Nat) : Int)) (by omega) (by omega) ql1_0 qa1_1
  by_cases c1 : ((1048576 : Int) - ((nIntS l0_0 : Nat) : Int)) < ((nFactS l1_0 : Nat) : Int)
  · rw [if_pos c1] at z1
    exact Ev.bind z1 (Ev.pos (by omega) (Ev.const rfl))
  rw [if_neg c1] at z1
  refine Ev.bind z1 (Ev.neg (by omega) ?_)
  have sl0_0 : nIntS l0_0 ≤ 1048576 := by omega
  have sl1_0 : nFactS l1_0 ≤ 1048576 := by omega
  have t0 := toSchema l0_0 (by omega)
  have t1 := toSource l1_0 a1_1 (by omega)
  have e0 := eqSource (cFactS l1_0) a1_1 (mcFactS (by omega))
  have e1 := eqSchema (cIntS l0_0) (mcIntS (by omega))
  have hs : (cIntS l0_0).length ≤ 1048576 := sl0_0
  have hl : (cFactS l1_0).length ≤ 1048576 := by unfold cFactS; simp; unfold nFactS at sl1_0; omega
  have ha : ∀ f ∈ cFactS l1_0, f.f1.length ≤ 1048576 := by
    intro f hf
    obtain ⟨y, hy, rfl⟩ := List.mem_map.1 hf
    have h1 : y.f1.length ≤ tsum nFact l1_0 := tsum_mem nFact hy
    show y.f1.length ≤ _
    unfold nFactS at sl1_0; omega
  have sp := spec_source (cIntS l0_0) (cFactS l1_0) a1_1 hs hl ha
  have im := impl_source (cIntS l0_0) (cFactS l1_0) a1_1 hs hl ha
  repeat' first
    | exact Ev.const rfl
    | refine Ev.pos rfl ?_
    | refine Ev.neg (by simp) ?_
    | refine Ev.bind t0 ?_
    | refine Ev.bind t1 ?_
    | refine Ev.bind sp ?_
    | refine Ev.bind im ?_
    | refine Ev.bind e0 ?_
    | refine Ev.bind e1 ?_
end Go.Proofs.Ythebbgobncbooaa.Pure

