/- Out of YtcneohelnfcbbaaPLawQuery: what the claim needs of it. Conditions: each declaration's own. -/
import Derived.Test.YtcneohelnfcbbaaZMayPx0
import Derived.Test.YtcneohelnfcbbaaZMayPx11
import Derived.Test.YtcneohelnfcbbaaZMayPx13
import Derived.Test.YtcneohelnfcbbaaZMayPx9
import Derived.Test.YtcneohelnfcbbaaZMayPBase
import Derived.Test.YtcneohelnfcbbaaZMayPLawAtom
import Derived.Test.YtcneohelnfcbbaaZMayPLawIntS
namespace Go.Proofs.Ytcneohelnfcbbaa.PLaw
open Go.RowKit Go.Proofs.Ytcneohelnfcbbaa.P Go.Proofs.YtcneohelnfcbbaaW.PrintWords Go.Proofs.YtcneohelnfcbbaaW.PrintLast Go.Proofs.Ytcneohelnfcbbaa.PB
set_option linter.unusedVariables false

theorem szQuery (x0 : List Int) (x1 : List S93) (a : Int) (h0 : 0 ≤ a) (h1 : a ≤ 1048576) (qx0_ : qIntS x0) (qx1_ : qAtomS x1) : Ev (fun k => laws_szQuery.f k x0 x1 a) (if a < ((nIntS x0 + nAtomS x1 : Nat) : Int) then -1 else a - ((nIntS x0 + nAtomS x1 : Nat) : Int)) := by
  unfold laws_szQuery.f
  have g0 : a ≤ 1048576 := by first | omega | exact h1
  refine Ev.bind (szIntS x0 a (by omega) (by omega) qx0_) ?_
  by_cases c0 : a < ((nIntS x0 : Nat) : Int)
  · rw [if_pos c0]
    exact Ev.pos (by omega) (Ev.const (by first | rfl | rw [if_pos (by omega)]))
  rw [if_neg c0]
  refine Ev.neg (by omega) ?_
  have e0 : a - ((nIntS x0 : Nat) : Int) = (a - ((nIntS x0 : Nat) : Int)) := by omega
  rw [e0]
  have g1 : (a - ((nIntS x0 : Nat) : Int)) ≤ 1048576 := by first | omega | exact h1
  refine Ev.bind (szAtomS x1 (a - ((nIntS x0 : Nat) : Int)) (by omega) (by omega) qx1_) ?_
  by_cases c1 : (a - ((nIntS x0 : Nat) : Int)) < ((nAtomS x1 : Nat) : Int)
  · rw [if_pos c1]
    exact Ev.pos (by omega) (Ev.const (by first | rfl | rw [if_pos (by omega)]))
  rw [if_neg c1]
  refine Ev.neg (by omega) ?_
  have e1 : (a - ((nIntS x0 : Nat) : Int)) - ((nAtomS x1 : Nat) : Int) = (a - ((nIntS x0 + nAtomS x1 : Nat) : Int)) := by omega
  rw [e1]
  exact Ev.const (by first | rfl | rw [if_neg (by omega)])
theorem toQuery (x0 : List Int) (x1 : List S93) (hn : nIntS x0 + nAtomS x1 ≤ 1048576) : Ev (fun k => laws_toQuery.f k x0 x1) (cIntS x0, cAtomS x1) := by
  unfold laws_toQuery.f
  refine Ev.bind (toIntS x0 (by omega)) ?_
  refine Ev.bind (toAtomS x1 (by omega)) ?_
  exact Ev.const rfl
theorem eqQuery (x0 : List Int) (x1 : List S86) (mx0_ : x0.length ≤ 4611686018427387000) (mx1_ : mAtomS x1) : Ev (fun k => laws_eqQuery.f k x0 x1 x0 x1) true := by
  unfold laws_eqQuery.f
  refine Ev.bind (eqIntS x0 mx0_) (Ev.pos rfl ?_)
  refine Ev.bind (eqAtomS x1 mx1_) (Ev.pos rfl ?_)
  exact Ev.const rfl
end Go.Proofs.Ytcneohelnfcbbaa.PLaw

