/- Out of YtjiipeidginjnaaPVals: what the claim needs of it. Conditions: each declaration's own. -/
import Derived.Test.YtjiipeidginjnaaZFlnPx3
import Derived.Test.YtjiipeidginjnaaZFlnPIn
namespace Go.Proofs.Ytjiipeidginjnaa.PVals
open Go.RowKit Go.Proofs.Ytjiipeidginjnaa.P Go.Proofs.YtjiipeidginjnaaW.PrintWords Go.Proofs.YtjiipeidginjnaaW.PrintLast Go.Proofs.Ytjiipeidginjnaa.PB Go.Proofs.Ytjiipeidginjnaa.PIn
set_option linter.unusedVariables false
def vals (l : List Int) : Bool := l.all fun x => inr x 0 99
theorem values_loop (l : List Int) (hl : l.length ≤ 4611686018427387000) : ∀ (d i : Nat), i + d = l.length → Ev (fun k => impl_areValues.l0 k l (l.length : Int) (i : Int)) (vals (l.drop i)) := by
  intro d
  induction d with
  | zero =>
    intro i hi
    obtain rfl : i = l.length := by omega
    refine Ev.step (fun k => by rw [impl_areValues.l0]) (Ev.neg (by omega) (Ev.const ?_))
    simp [vals]
  | succ d ih =>
    intro i hi
    have hlt : i < l.length := by omega
    refine Ev.step (fun k => by rw [impl_areValues.l0]) (Ev.pos (by omega) (Ev.pos (by omega) (Ev.pos (by omega) ?_)))
    rw [rd_nat _ _ hlt, inc (by omega), drop_cons hlt]
    refine Ev.bindc (impl_in _ _ _) ?_
    by_cases h : inr l[i] 0 99 = true
    · refine Ev.pos h (Ev.eq (ih (i + 1) (by omega)) rfl ?_)
      simp [vals, h, -List.getElem_cons_drop]
    · refine Ev.neg h (Ev.const ?_)
      simp [vals, h, -List.getElem_cons_drop]
theorem values_ev (l : List Int) (hl : l.length ≤ 4611686018427387000) : Ev (fun k => impl_areValues.f k l) (vals l) :=
  Ev.eq (values_loop l hl l.length 0 (by omega)) (by funext k; rw [impl_areValues.f]; rfl) (by simp)
end Go.Proofs.Ytjiipeidginjnaa.PVals

