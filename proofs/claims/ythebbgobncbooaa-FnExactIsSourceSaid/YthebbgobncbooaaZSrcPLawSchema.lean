/- Out of YthebbgobncbooaaPLawSchema: what the claim needs of it. Conditions: each declaration's own. -/
import Derived.Test.YthebbgobncbooaaZSrcPx10
import Derived.Test.YthebbgobncbooaaZSrcPx12
import Derived.Test.YthebbgobncbooaaZSrcPx6
import Derived.Test.YthebbgobncbooaaZSrcPBase
import Derived.Test.YthebbgobncbooaaZSrcPLawIntS
namespace Go.Proofs.Ythebbgobncbooaa.PLaw
open Go.RowKit Go.Proofs.Ythebbgobncbooaa.P Go.Proofs.YthebbgobncbooaaW.PrintWords Go.Proofs.YthebbgobncbooaaW.PrintLast Go.Proofs.Ythebbgobncbooaa.PB
set_option linter.unusedVariables false

theorem szSchema (x0 : List Int) (a : Int) (h0 : 0 ≤ a) (h1 : a ≤ 1048576) (qx0_ : qIntS x0) : Ev (fun k => laws_szSchema.f x0 a) (if a < ((nIntS x0 : Nat) : Int) then -1 else a - ((nIntS x0 : Nat) : Int)) := by
  unfold laws_szSchema.f
  have g0 : a ≤ 1048576 := by first | omega | exact h1
  refine Ev.bind (szIntS x0 a (by omega) (by omega) qx0_) ?_
  by_cases c0 : a < ((nIntS x0 : Nat) : Int)
  · rw [if_pos c0]
    exact Ev.pos (by omega) (Ev.const (by first | rfl | rw [if_pos (by omega)]))
  rw [if_neg c0]
  refine Ev.neg (by omega) ?_
  have e0 : a - ((nIntS x0 : Nat) : Int) = (a - ((nIntS x0 : Nat) : Int)) := by omega
  rw [e0]
  exact Ev.const (by first | rfl | rw [if_neg (by omega)])
theorem toSchema (x0 : List Int) (hn : nIntS x0 ≤ 1048576) : Ev (fun k => laws_toSchema.f k x0) (cIntS x0) := by
  unfold laws_toSchema.f
  refine Ev.bind (toIntS x0 (by omega)) ?_
  exact Ev.const rfl
theorem eqSchema (x0 : List Int) (mx0_ : x0.length ≤ 4611686018427387000) : Ev (fun k => laws_eqSchema.f k x0 x0) true := by
  unfold laws_eqSchema.f
  refine Ev.bind (eqIntS x0 mx0_) (Ev.pos rfl ?_)
  exact Ev.const rfl
end Go.Proofs.Ythebbgobncbooaa.PLaw

