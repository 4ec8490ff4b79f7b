/- Out of YtjiipeidginjnaaPLines: what the claim needs of it. Conditions: each declaration's own. -/
import Derived.Test.YtjiipeidginjnaaZFlnPx1
import Derived.Test.YtjiipeidginjnaaZFlnPx3
import Derived.Test.YtjiipeidginjnaaZFlnPFact
namespace Go.Proofs.Ytjiipeidginjnaa.PLines
open Go.RowKit Go.Proofs.Ytjiipeidginjnaa.P Go.Proofs.YtjiipeidginjnaaW.PrintWords Go.Proofs.YtjiipeidginjnaaW.PrintLast Go.Proofs.Ytjiipeidginjnaa.PB Go.Proofs.Ytjiipeidginjnaa.PFact
set_option linter.unusedVariables false
def lns (l : List S82) : List ByteArray := l.map fun x => factB x.f0 x.f1
theorem rdFa (l : List S82) (i : Nat) (h : i < l.length) : rd_T82 l (i : Int) = l[i] := by rw [rd_T82]; exact getD_nat _ _ _ h
theorem lns_step (l : List S82) (i : Nat) (h : i < l.length) : lns (l.take i) ++ [factB l[i].f0 l[i].f1] = lns (l.take (i + 1)) := by
  rw [take_snoc h, lns, lns, List.map_append]; rfl
theorem lns_len (l : List S82) : (lns l).length = l.length := by simp [lns]
theorem spec_lines (l : List S82) (hl : l.length ≤ 1048576) (hw : ∀ x ∈ l, (Lit.int .i64 x.f0).wf = true ∧ ∀ y ∈ x.f1, (Lit.int .i64 y).wf = true) : Ev (fun k => spec_FactLines.f k l) (lns l) := by
  have loop : ∀ (d i : Nat), i + d = l.length → Ev (fun k => spec_FactLines.l0 k l (lns (l.take i)) (i : Int)) (lns l) := by
    intro d
    induction d with
    | zero =>
      intro i hi
      rw [List.take_of_length_le (by omega)]
      exact Ev.step (fun k => by rw [spec_FactLines.l0]) (Ev.neg (by omega) (Ev.const rfl))
    | succ d ih =>
      intro i hi
      have hlt : i < l.length := by omega
      have hx := hw _ (List.getElem_mem hlt)
      have hz : (lns (l.take i)).length ≤ 1048576 := by rw [lns_len, List.length_take]; omega
      refine Ev.step (fun k => by rw [spec_FactLines.l0]) ?_
      refine Ev.pos (by omega) (Ev.pos (by omega) ?_)
      rw [rdFa _ _ hlt, inc (by omega)]
      refine Ev.bind (spec_fact hx.1 hx.2) (Ev.pos (by omega) ?_)
      rw [lns_step l i hlt]
      exact ih (i + 1) (by omega)
  have h0 : Ev (fun k => spec_FactLines.l0 k l (lns (l.take 0)) 0) (lns l) := loop l.length 0 (by omega)
  exact h0
theorem impl_lines (l : List S82) (hl : l.length ≤ 1048576) (hw : ∀ x ∈ l, (Lit.int .i64 x.f0).wf = true ∧ ∀ y ∈ x.f1, (Lit.int .i64 y).wf = true) : Ev (fun k => impl_FactLines.f k l) (lns l) := by
  have loop : ∀ (d i : Nat), i + d = l.length → Ev (fun k => impl_FactLines.l0 k (lns (l.take i)) l (l.length : Int) (i : Int)) (lns l) := by
    intro d
    induction d with
    | zero =>
      intro i hi
      rw [List.take_of_length_le (by omega)]
      exact Ev.step (fun k => by rw [impl_FactLines.l0]) (Ev.neg (by omega) (Ev.const rfl))
    | succ d ih =>
      intro i hi
      have hlt : i < l.length := by omega
      have hx := hw _ (List.getElem_mem hlt)
      have hz : (lns (l.take i)).length ≤ 1048576 := by rw [lns_len, List.length_take]; omega
      refine Ev.step (fun k => by rw [impl_FactLines.l0]) ?_
      refine Ev.pos (by omega) (Ev.pos (by omega) (Ev.pos (by omega) ?_))
      rw [rdFa _ _ hlt, inc (by omega)]
      refine Ev.bind (impl_fact hx.1 hx.2) (Ev.pos (by omega) ?_)
      rw [lns_step l i hlt]
      exact ih (i + 1) (by omega)
  have h0 : Ev (fun k => impl_FactLines.l0 k (lns (l.take 0)) l (l.length : Int) 0) (lns l) := loop l.length 0 (by omega)
  exact h0
end Go.Proofs.Ytjiipeidginjnaa.PLines

