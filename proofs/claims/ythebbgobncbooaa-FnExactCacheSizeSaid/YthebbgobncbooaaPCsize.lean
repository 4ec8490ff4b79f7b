/- The number of tuples of all tables: the reference and the program come to the same number. Conditions: bounds on lengths. -/
import Derived.Test.YthebbgobncbooaaPx0
import Derived.Test.YthebbgobncbooaaPx14
import Derived.Test.YthebbgobncbooaaPx15
import Derived.Test.YthebbgobncbooaaPBase
namespace Go.Proofs.Ythebbgobncbooaa.PCsize
open Go.RowKit Go.Proofs.Ythebbgobncbooaa.P Go.Proofs.YthebbgobncbooaaW.PrintWords Go.Proofs.YthebbgobncbooaaW.PrintLast Go.Proofs.Ythebbgobncbooaa.PB
set_option linter.unusedVariables false
def size : Int → List (List (List Int)) → Int
  | n, [] => n
  | n, t :: r => size (wrap64 (n + (t.length : Int))) r
theorem rdT (l : List (List (List Int))) (i : Nat) (h : i < l.length) : rd_L9 l (i : Int) = l[i] := by rw [rd_L9]; exact getD_nat _ _ _ h
theorem spec_csize (v : List S96) (l : List (List (List Int))) (n : Int) (hl : l.length ≤ 1048576) : Ev (fun k => spec_CacheSize.f k v l n) (size 0 l) := by
  have loop : ∀ (d i : Nat) (a : Int), i + d = l.length → Ev (fun k => spec_CacheSize.l0 k a (i : Int) v l n) (size a (l.drop i)) := by
    intro d
    induction d with
    | zero =>
      intro i a hi
      rw [List.drop_of_length_le (by omega)]; show Ev _ a
      exact Ev.step (fun k => by rw [spec_CacheSize.l0]) (Ev.neg (by omega) (Ev.const rfl))
    | succ d ih =>
      intro i a hi
      have hlt : i < l.length := by omega
      refine Ev.step (fun k => by rw [spec_CacheSize.l0]) (Ev.pos (by omega) (Ev.pos (by omega) ?_))
      rw [rdT _ _ hlt, inc (by omega), drop_cons hlt]
      exact ih (i + 1) _ (by omega)
  exact Ev.eq (loop l.length 0 0 (by omega)) (by funext k; rw [spec_CacheSize.f]; rfl) (by simp)
theorem impl_csize (v : List S96) (l : List (List (List Int))) (n : Int) (hl : l.length ≤ 1048576) : Ev (fun k => impl_CacheSize.f k v l n) (size 0 l) := by
  have loop : ∀ (d i : Nat) (a : Int), i + d = l.length → Ev (fun k => impl_CacheSize.l0 k a l (l.length : Int) (i : Int)) (size a (l.drop i)) := by
    intro d
    induction d with
    | zero =>
      intro i a hi
      rw [List.drop_of_length_le (by omega)]; show Ev _ a
      exact Ev.step (fun k => by rw [impl_CacheSize.l0]) (Ev.neg (by omega) (Ev.const rfl))
    | succ d ih =>
      intro i a hi
      have hlt : i < l.length := by omega
      refine Ev.step (fun k => by rw [impl_CacheSize.l0]) (Ev.pos (by omega) (Ev.pos (by omega) (Ev.pos (by omega) ?_)))
      rw [rdT _ _ hlt, inc (by omega), drop_cons hlt]
      exact ih (i + 1) _ (by omega)
  exact Ev.eq (loop l.length 0 0 (by omega)) (by funext k; rw [impl_CacheSize.f]; rfl) (by simp)
end Go.Proofs.Ythebbgobncbooaa.PCsize
