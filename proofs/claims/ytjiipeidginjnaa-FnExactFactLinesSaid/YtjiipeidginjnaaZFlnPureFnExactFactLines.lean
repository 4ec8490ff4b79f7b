/- Out of YtjiipeidginjnaaPureFnExactFactLines: what the claim needs of it. Conditions: each declaration's own. -/
import Derived.Test.YtjiipeidginjnaaZFlnPxyFnExactFactLines
import Derived.Test.YtjiipeidginjnaaZFlnPLines
import Derived.Test.YtjiipeidginjnaaZFlnPMarkS
import Derived.Test.YtjiipeidginjnaaZFlnPLawFact
namespace Go.Proofs.Ytjiipeidginjnaa.Pure
open Go.RowKit Go.Proofs.Ytjiipeidginjnaa.P Go.Proofs.YtjiipeidginjnaaW.PrintWords Go.Proofs.YtjiipeidginjnaaW.PrintLast Go.Proofs.Ytjiipeidginjnaa.PB Go.Proofs.Ytjiipeidginjnaa.PLaw Go.Proofs.Ytjiipeidginjnaa.PLines Go.Proofs.Ytjiipeidginjnaa.PMarkS
set_option linter.unusedVariables false
theorem FnExactFactLines : ∀ (l0 : List (S94)), (qFactS l0) → ∃ k, laws_FnExactFactLines.f k l0 = some true := by
  intro l0 ql0
  apply Ev.rounds
  unfold laws_FnExactFactLines.f
  have z0 := szFactS l0 1048576 (by omega) (by omega) ql0
  by_cases c0 : (1048576 : Int) < ((nFactS l0 : Nat) : Int)
  · rw [if_pos c0] at z0
    exact Ev.bind z0 (Ev.pos (by omega) (Ev.const rfl))
  rw [if_neg c0] at z0
  refine Ev.bind z0 (Ev.neg (by omega) ?_)
  have sl0 : nFactS l0 ≤ 1048576 := by omega
  have t0 := toFactS l0 (by omega)
  have e0 := eqFactS (cFactS l0) (mcFactS (by omega))
  have hl : (cFactS l0).length ≤ 1048576 := by unfold cFactS; simp; unfold nFactS at sl0; omega
  have hw : ∀ x ∈ cFactS l0, (Lit.int .i64 x.f0).wf = true ∧ ∀ y ∈ x.f1, (Lit.int .i64 y).wf = true := by
    intro f hf
    obtain ⟨y, hy, rfl⟩ := List.mem_map.1 hf
    exact ⟨(ql0.2 y hy).1, (ql0.2 y hy).2.2⟩
  have sp := spec_lines (cFactS l0) hl hw
  have im := impl_lines (cFactS l0) hl hw
  have hz := lns_len (cFactS l0)
  have x0 := eqS_ev (lns (cFactS l0)) (by omega)
  have x1 := smark_ev 1 (lns (cFactS l0)) (by omega) (by omega)
  have x2 := sheld_ev 1 (lns (cFactS l0)) (by omega) (by omega)
  have hi : ∀ l : List Int, cnIntS l = l.length := by
    intro l; unfold cnIntS
    induction l with
    | nil => rfl
    | cons x r ih => rw [Lay.sumOf, ih, List.length_cons]; omega
  have hc : ∀ l : List S94, cnFactS (cFactS l) = nFactS l := by
    intro l
    unfold cnFactS cFactS nFactS
    induction l with
    | nil => rfl
    | cons x r ih =>
      rw [List.map_cons, Lay.sumOf, ih, tsum_cons, List.length_cons, hi]
      show 1 + (cIntS x.f1).length + (r.length + tsum nFact r) = r.length + 1 + ((x.f1).length + tsum nFact r)
      show 1 + (x.f1).length + (r.length + tsum nFact r) = r.length + 1 + ((x.f1).length + tsum nFact r)
      omega
  have hc0 := hc l0
  have pb0 : (1 + (cnFactS (cFactS l0) : Nat) : Int) ≤ 4611686018427387000 := by omega
  have nb0 : ¬ ((1 : Int) + ((lns (cFactS l0)).length : Int) < 0) := by omega
  repeat' first
    | exact Ev.const rfl
    | refine Ev.pos rfl ?_
    | refine Ev.pos pb0 ?_
    | refine Ev.neg nb0 ?_
    | refine Ev.neg (by simp) ?_
    | refine Ev.bind t0 ?_
    | refine Ev.bind sp ?_
    | refine Ev.bind im ?_
    | refine Ev.bind e0 ?_
    | refine Ev.bind x0 ?_
    | refine Ev.bind x1 ?_
    | refine Ev.bind x2 ?_
end Go.Proofs.Ytjiipeidginjnaa.Pure

