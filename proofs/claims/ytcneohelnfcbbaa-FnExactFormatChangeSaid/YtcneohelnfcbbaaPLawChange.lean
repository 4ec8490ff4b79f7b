/- The laws' own helpers over Change: sizes (sz..), copies (to..), comparisons (eq..): what each comes to. Conditions: bounds on lengths. -/
import Derived.Test.YtcneohelnfcbbaaPx7
import Derived.Test.YtcneohelnfcbbaaPx8
import Derived.Test.YtcneohelnfcbbaaPBase
import Derived.Test.YtcneohelnfcbbaaPLawFact
import Derived.Test.YtcneohelnfcbbaaPLawIntS
namespace Go.Proofs.Ytcneohelnfcbbaa.PLaw
open Go.RowKit Go.Proofs.Ytcneohelnfcbbaa.P Go.Proofs.YtcneohelnfcbbaaW.PrintWords Go.Proofs.YtcneohelnfcbbaaW.PrintLast Go.Proofs.Ytcneohelnfcbbaa.PB
set_option linter.unusedVariables false

theorem szChange (x0 : Bool) (x1 : Int) (x2 : List Int) (a : Int) (h0 : 0 ≤ a) (h1 : a ≤ 1048576) (qx0_ : True) (qx1_ : (Lit.int .i64 x1).wf = true) (qx2_ : qIntS x2) : Ev (fun k => laws_szChange.f x0 x1 x2 a) (if a < ((nIntS x2 : Nat) : Int) then -1 else a - ((nIntS x2 : Nat) : Int)) := by
  unfold laws_szChange.f
  have g0 : a ≤ 1048576 := by first | omega | exact h1
  refine Ev.bind (szFact x1 x2 a (by omega) (by omega) qx1_ qx2_) ?_
  by_cases c0 : a < ((nIntS x2 : Nat) : Int)
  · rw [if_pos c0]
    exact Ev.pos (by omega) (Ev.const (by first | rfl | rw [if_pos (by omega)]))
  rw [if_neg c0]
  refine Ev.neg (by omega) ?_
  have e0 : a - ((nIntS x2 : Nat) : Int) = (a - ((nIntS x2 : Nat) : Int)) := by omega
  rw [e0]
  exact Ev.const (by first | rfl | rw [if_neg (by omega)])
theorem toChange (x0 : Bool) (x1 : Int) (x2 : List Int) (hn : nIntS x2 ≤ 1048576) : Ev (fun k => laws_toChange.f k x0 x1 x2) (x0, x1, cIntS x2) := by
  unfold laws_toChange.f
  refine Ev.bind (toFact x1 x2 (by omega)) ?_
  exact Ev.const rfl
theorem eqChange (x0 : Bool) (x1 : Int) (x2 : List Int) (mx2_ : x2.length ≤ 4611686018427387000) : Ev (fun k => laws_eqChange.f k x0 x1 x2 x0 x1 x2) true := by
  unfold laws_eqChange.f
  refine Ev.neg (by simp) ?_
  refine Ev.bind (eqFact x1 x2 mx2_) (Ev.pos rfl ?_)
  exact Ev.const rfl
end Go.Proofs.Ytcneohelnfcbbaa.PLaw
