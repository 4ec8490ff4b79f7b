/- Out of YthebbgobncbooaaPLess: what the claim needs of it. Conditions: each declaration's own. -/
import Derived.Test.YthebbgobncbooaaZSrcPx10
import Derived.Test.YthebbgobncbooaaZSrcPx8
import Derived.Test.YthebbgobncbooaaZSrcPBase
namespace Go.Proofs.Ythebbgobncbooaa.PLess
open Go.RowKit Go.Proofs.Ythebbgobncbooaa.P Go.Proofs.YthebbgobncbooaaW.PrintWords Go.Proofs.YthebbgobncbooaaW.PrintLast Go.Proofs.Ythebbgobncbooaa.PB
set_option linter.unusedVariables false
/-- -1, 0 or 1: by the first number that differs; a list comes before longer ones that begin with it. -/
def cmpL : List Int → List Int → Int
  | [], [] => 0
  | [], _ :: _ => -1
  | _ :: _, [] => 1
  | x :: a, y :: b => if x < y then -1 else if x > y then 1 else cmpL a b
theorem cmp_ev (x y : Int) : cmp_Compare_int.f x y = some (if x < y then -1 else if x > y then 1 else 0) := by
  unfold cmp_Compare_int.f cmp_isNaN_int.f
  simp only [Option.bind_some, bne_self_eq_false, Bool.false_eq_true, if_false]
  split
  · rfl
  · split <;> rfl
theorem compare_ev (a b : List Int) (ha : a.length ≤ 1048576) (hb : b.length ≤ 1048576) : Ev (fun k => slices_Compare_int_int.f k a b) (cmpL a b) := by
  have loop : ∀ (d i : Nat), i + d = a.length → i ≤ b.length → Ev (fun k => slices_Compare_int_int.l0 k a b a (a.length : Int) (i : Int)) (cmpL (a.drop i) (b.drop i)) := by
    intro d
    induction d with
    | zero =>
      intro i hi hj
      obtain rfl : i = a.length := by omega
      refine Ev.step (fun k => by rw [slices_Compare_int_int.l0]) (Ev.neg (by omega) ?_)
      rw [List.drop_length]
      by_cases h : a.length < b.length
      · refine Ev.pos (by omega) (Ev.const ?_)
        rw [drop_cons h]; rfl
      · refine Ev.neg (by omega) (Ev.const ?_)
        rw [List.drop_of_length_le (show b.length ≤ a.length by omega)]; rfl
    | succ d ih =>
      intro i hi hj
      have hlt : i < a.length := by omega
      refine Ev.step (fun k => by rw [slices_Compare_int_int.l0]) (Ev.pos (by omega) (Ev.pos (by omega) (Ev.pos (by omega) ?_)))
      by_cases h : i < b.length
      · refine Ev.neg (by omega) (Ev.pos (by omega) ?_)
        rw [rd_nat _ _ hlt, rd_nat _ _ h, inc (by omega), drop_cons hlt, drop_cons h, cmpL]
        refine Ev.bindc (cmp_ev _ _) ?_
        by_cases h1 : a[i] < b[i]
        · simp only [if_pos h1]; exact Ev.neg (by omega) (Ev.const rfl)
        · by_cases h2 : a[i] > b[i]
          · simp only [if_neg h1, if_pos h2]; exact Ev.neg (by omega) (Ev.const rfl)
          · simp only [if_neg h1, if_neg h2]; exact Ev.pos trivial (ih (i + 1) (by omega) (by omega))
      · refine Ev.pos (by omega) (Ev.const ?_)
        rw [drop_cons hlt, List.drop_of_length_le (show b.length ≤ i by omega)]; rfl
  exact Ev.eq (loop a.length 0 (by omega) (by omega)) (by funext k; rw [slices_Compare_int_int.f]; rfl) (by simp)
theorem less_ev (a b : List Int) (ha : a.length ≤ 1048576) (hb : b.length ≤ 1048576) : Ev (fun k => spec_l2Less.f k a b) (decide (cmpL a b < 0)) := by
  have loop : ∀ (d i : Nat), i + d = a.length → i ≤ b.length → Ev (fun k => spec_l2Less.l0 k a b (i : Int)) (decide (cmpL (a.drop i) (b.drop i) < 0)) := by
    intro d
    induction d with
    | zero =>
      intro i hi hj
      obtain rfl : i = a.length := by omega
      refine Ev.step (fun k => by rw [spec_l2Less.l0]) (Ev.neg (by omega) (Ev.step (fun k => by rw [spec_l2Less.j1]) (Ev.neg (by simp) (Ev.const ?_))))
      rw [List.drop_length]
      by_cases h : a.length < b.length
      · rw [drop_cons h, decide_eq_true (by omega)]; rfl
      · rw [List.drop_of_length_le (show b.length ≤ a.length by omega), decide_eq_false (by omega)]; rfl
    | succ d ih =>
      intro i hi hj
      have hlt : i < a.length := by omega
      refine Ev.step (fun k => by rw [spec_l2Less.l0]) (Ev.pos (by omega) (Ev.step (fun k => by rw [spec_l2Less.j1]) ?_))
      by_cases h : i < b.length
      · refine Ev.pos (decide_eq_true (by omega)) (Ev.pos (by omega) (Ev.pos (by omega) (Ev.pos (by omega) ?_)))
        rw [rd_nat _ _ hlt, rd_nat _ _ h, inc (by omega), drop_cons hlt, drop_cons h, cmpL]
        by_cases h1 : a[i] < b[i]
        · refine Ev.neg (by omega) (Ev.const ?_)
          rw [if_pos h1, decide_eq_true h1]; rfl
        · by_cases h2 : a[i] > b[i]
          · refine Ev.neg (by omega) (Ev.const ?_)
            rw [if_neg h1, if_pos h2, decide_eq_false h1]; rfl
          · simp only [if_neg h1, if_neg h2]; exact Ev.pos (by omega) (ih (i + 1) (by omega) (by omega))
      · refine Ev.neg (by simp; omega) (Ev.const ?_)
        rw [drop_cons hlt, List.drop_of_length_le (show b.length ≤ i by omega), decide_eq_false (by omega)]; rfl
  exact Ev.eq (loop a.length 0 (by omega) (by omega)) (by funext k; rw [spec_l2Less.f]; rfl) (by simp)
end Go.Proofs.Ythebbgobncbooaa.PLess

