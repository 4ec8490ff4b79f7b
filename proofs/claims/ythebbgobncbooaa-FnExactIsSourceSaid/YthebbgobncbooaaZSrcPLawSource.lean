/- Out of YthebbgobncbooaaPLawSource: what the claim needs of it. Conditions: each declaration's own. -/
import Derived.Test.YthebbgobncbooaaZSrcPx0
import Derived.Test.YthebbgobncbooaaZSrcPx10
import Derived.Test.YthebbgobncbooaaZSrcPx12
import Derived.Test.YthebbgobncbooaaZSrcPx6
import Derived.Test.YthebbgobncbooaaZSrcPBase
import Derived.Test.YthebbgobncbooaaZSrcPLawFact
import Derived.Test.YthebbgobncbooaaZSrcPLawIntS
namespace Go.Proofs.Ythebbgobncbooaa.PLaw
open Go.RowKit Go.Proofs.Ythebbgobncbooaa.P Go.Proofs.YthebbgobncbooaaW.PrintWords Go.Proofs.YthebbgobncbooaaW.PrintLast Go.Proofs.Ythebbgobncbooaa.PB
set_option linter.unusedVariables false

theorem szSource (x0 : List S112) (x1 : Int) (a : Int) (h0 : 0 ≤ a) (h1 : a ≤ 1048576) (qx0_ : qFactS x0) (qx1_ : (Lit.int .i64 x1).wf = true) : Ev (fun k => laws_szSource.f k x0 x1 a) (if a < ((nFactS x0 : Nat) : Int) then -1 else a - ((nFactS x0 : Nat) : Int)) := by
  unfold laws_szSource.f
  have g0 : a ≤ 1048576 := by first | omega | exact h1
  refine Ev.bind (szFactS x0 a (by omega) (by omega) qx0_) ?_
  by_cases c0 : a < ((nFactS x0 : Nat) : Int)
  · rw [if_pos c0]
    exact Ev.pos (by omega) (Ev.const (by first | rfl | rw [if_pos (by omega)]))
  rw [if_neg c0]
  refine Ev.neg (by omega) ?_
  have e0 : a - ((nFactS x0 : Nat) : Int) = (a - ((nFactS x0 : Nat) : Int)) := by omega
  rw [e0]
  exact Ev.const (by first | rfl | rw [if_neg (by omega)])
theorem toSource (x0 : List S112) (x1 : Int) (hn : nFactS x0 ≤ 1048576) : Ev (fun k => laws_toSource.f k x0 x1) (cFactS x0, x1) := by
  unfold laws_toSource.f
  refine Ev.bind (toFactS x0 (by omega)) ?_
  exact Ev.const rfl
theorem eqSource (x0 : List S103) (x1 : Int) (mx0_ : mFactS x0) : Ev (fun k => laws_eqSource.f k x0 x1 x0 x1) true := by
  unfold laws_eqSource.f
  refine Ev.bind (eqFactS x0 mx0_) (Ev.pos rfl ?_)
  first | refine Ev.pos rfl ?_ | skip
  exact Ev.const rfl
end Go.Proofs.Ythebbgobncbooaa.PLaw

