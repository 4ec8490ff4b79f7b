/- The laws' own helpers over Cache: sizes (sz..), copies (to..), comparisons (eq..): what each comes to. Conditions: bounds on lengths. -/
import Derived.Test.YthebbgobncbooaaPx0
import Derived.Test.YthebbgobncbooaaPx14
import Derived.Test.YthebbgobncbooaaPx15
import Derived.Test.YthebbgobncbooaaPx17
import Derived.Test.YthebbgobncbooaaPBase
import Derived.Test.YthebbgobncbooaaPLawIntS
import Derived.Test.YthebbgobncbooaaPLawIntSSS
import Derived.Test.YthebbgobncbooaaPLawQuery
namespace Go.Proofs.Ythebbgobncbooaa.PLaw
open Go.RowKit Go.Proofs.Ythebbgobncbooaa.P Go.Proofs.YthebbgobncbooaaW.PrintWords Go.Proofs.YthebbgobncbooaaW.PrintLast Go.Proofs.Ythebbgobncbooaa.PB
set_option linter.unusedVariables false

theorem szCache (x0 : List S89) (x1 : List (List (List Int))) (x2 : Int) (a : Int) (h0 : 0 ≤ a) (h1 : a ≤ 1048576) (qx0_ : qQueryS x0) (qx1_ : qIntSSS x1) (qx2_ : (Lit.int .i64 x2).wf = true) : Ev (fun k => laws_szCache.f k x0 x1 x2 a) (if a < ((nQueryS x0 + nIntSSS x1 : Nat) : Int) then -1 else a - ((nQueryS x0 + nIntSSS x1 : Nat) : Int)) := by
  unfold laws_szCache.f
  have g0 : a ≤ 1048576 := by first | omega | exact h1
  refine Ev.bind (szQueryS x0 a (by omega) (by omega) qx0_) ?_
  by_cases c0 : a < ((nQueryS x0 : Nat) : Int)
  · rw [if_pos c0]
    exact Ev.pos (by omega) (Ev.const (by first | rfl | rw [if_pos (by omega)]))
  rw [if_neg c0]
  refine Ev.neg (by omega) ?_
  have e0 : a - ((nQueryS x0 : Nat) : Int) = (a - ((nQueryS x0 : Nat) : Int)) := by omega
  rw [e0]
  have g1 : (a - ((nQueryS x0 : Nat) : Int)) ≤ 1048576 := by first | omega | exact h1
  refine Ev.bind (szIntSSS x1 (a - ((nQueryS x0 : Nat) : Int)) (by omega) (by omega) qx1_) ?_
  by_cases c1 : (a - ((nQueryS x0 : Nat) : Int)) < ((nIntSSS x1 : Nat) : Int)
  · rw [if_pos c1]
    exact Ev.pos (by omega) (Ev.const (by first | rfl | rw [if_pos (by omega)]))
  rw [if_neg c1]
  refine Ev.neg (by omega) ?_
  have e1 : (a - ((nQueryS x0 : Nat) : Int)) - ((nIntSSS x1 : Nat) : Int) = (a - ((nQueryS x0 + nIntSSS x1 : Nat) : Int)) := by omega
  rw [e1]
  exact Ev.const (by first | rfl | rw [if_neg (by omega)])
theorem toCache (x0 : List S89) (x1 : List (List (List Int))) (x2 : Int) (hn : nQueryS x0 + nIntSSS x1 ≤ 1048576) : Ev (fun k => laws_toCache.f k x0 x1 x2) (cQueryS x0, cIntSSS x1, x2) := by
  unfold laws_toCache.f
  refine Ev.bind (toQueryS x0 (by omega)) ?_
  refine Ev.bind (toIntSSS x1 (by omega)) ?_
  exact Ev.const rfl
theorem eqCache (x0 : List S96) (x1 : List (List (List Int))) (x2 : Int) (mx0_ : mQueryS x0) (mx1_ : mIntSSS x1) : Ev (fun k => laws_eqCache.f k x0 x1 x2 x0 x1 x2) true := by
  unfold laws_eqCache.f
  refine Ev.bind (eqQueryS x0 mx0_) (Ev.pos rfl ?_)
  refine Ev.bind (eqIntSSS x1 mx1_) (Ev.pos rfl ?_)
  first | refine Ev.pos rfl ?_ | skip
  exact Ev.const rfl
end Go.Proofs.Ythebbgobncbooaa.PLaw
