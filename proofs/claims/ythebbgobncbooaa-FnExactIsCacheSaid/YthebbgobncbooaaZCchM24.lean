/- Several texts in one: what the claim needs of them. Conditions: each declaration's own. -/
import Derived.Test.YthebbgobncbooaaZCchWWords
import Derived.Test.YthebbgobncbooaaZCchM10
import Derived.Test.YthebbgobncbooaaZCchM11
import Derived.Test.YthebbgobncbooaaZCchM15
import Derived.Test.YthebbgobncbooaaZCchM19
import Derived.Test.YthebbgobncbooaaZCchPx15
import Derived.Test.YthebbgobncbooaaZCchPx14
import Derived.Test.YthebbgobncbooaaZCchM18
import Derived.Test.YthebbgobncbooaaZCchPx29
import Derived.Test.YthebbgobncbooaaZCchPx30
import Derived.Test.YthebbgobncbooaaZCchPx16
import Derived.Test.YthebbgobncbooaaZCchPx55
import Derived.Test.YthebbgobncbooaaZCchPx56
import Derived.Test.YthebbgobncbooaaZCchM22
import Derived.Test.YthebbgobncbooaaZCchPx59
import Derived.Deep.Slices
import Derived.Deep.Strs
import Derived.Lib.SmallJoins
import Derived.WideShapes
import Derived.ChangeSame
import Derived.DataElems
namespace Go.Proofs.Ythebbgobncbooaa.PB
open Go.RowKit Go.Proofs.YthebbgobncbooaaW.PrintWords
set_option linter.unusedVariables false

theorem Ev.pos {α : Type} {c : Prop} [Decidable c] {f g : Nat → Option α} {r : α} (h : c) (k : Ev f r) : Ev (fun n => if c then f n else g n) r :=
  Ev.congr (fun n => if_pos h) k
theorem Ev.neg {α : Type} {c : Prop} [Decidable c] {f g : Nat → Option α} {r : α} (h : ¬ c) (k : Ev g r) : Ev (fun n => if c then f n else g n) r :=
  Ev.congr (fun n => if_neg h) k
theorem Ev.const {α : Type} {x : Option α} {r : α} (h : x = some r) : Ev (fun _ => x) r := ⟨0, fun _ _ => h⟩
/-- A callee without rounds. -/
theorem Ev.bindc {α β : Type} {g : Option α} {f : Nat → α → Option β} {a : α} {r : β} (h : g = some a) (k : Ev (fun n => f n a) r) : Ev (fun n => g.bind (f n)) r := by
  subst h; exact k
theorem Ev.eq {α : Type} {g f : Nat → Option α} {r q : α} (h : Ev g r) (hg : g = f) (hr : r = q) : Ev f q := by subst hg; subst hr; exact h

theorem inc {i : Nat} (h : i < 4611686018427387904) : wrap64 ((i : Int) + 1) = ((i + 1 : Nat) : Int) := by
  unfold wrap64; omega
theorem w64 {n : Int} (h : -9223372036854775808 ≤ n) (h' : n ≤ 9223372036854775807) : wrap64 n = n := by
  unfold wrap64; omega
theorem rd_nat (xs : List Int) (i : Nat) (h : i < xs.length) : rd xs (i : Int) = xs[i] := by
  unfold rd; simp [List.getD_eq_getElem?_getD, h]
theorem getD_nat {α : Type} (d : α) (xs : List α) (i : Nat) (h : i < xs.length) : xs.getD (i : Int).toNat d = xs[i] := by
  simp [List.getD_eq_getElem?_getD, h]
theorem drop_cons {α : Type} {xs : List α} {i : Nat} (h : i < xs.length) : xs.drop i = xs[i] :: xs.drop (i + 1) := by
  exact List.drop_eq_getElem_cons h
theorem take_snoc {α : Type} {xs : List α} {i : Nat} (h : i < xs.length) : xs.take (i + 1) = xs.take i ++ [xs[i]] := by
  exact List.take_succ_eq_append_getElem h
theorem fill_set' {α : Type} (ys : List α) (i d : Nat) (z v : α) (h : ys.length = i) : (ys ++ List.replicate (d + 1) z).set i v = ys ++ [v] ++ List.replicate d z := by
  rw [List.set_append, if_neg (by omega), h, Nat.sub_self]
  simp [List.replicate_succ]
def tsum {α : Type} (f : α → Nat) : List α → Nat
  | [] => 0
  | x :: r => f x + tsum f r
theorem tsum_cons {α : Type} (f : α → Nat) (x : α) (r : List α) : tsum f (x :: r) = f x + tsum f r := rfl
theorem tsum_mem {α : Type} (f : α → Nat) {l : List α} {x : α} (h : x ∈ l) : f x ≤ tsum f l := by
  induction l with
  | nil => simp at h
  | cons y r ih =>
    rcases List.mem_cons.1 h with rfl | h
    · simp [tsum]
    · have := ih h; simp [tsum]; omega
end Go.Proofs.Ythebbgobncbooaa.PB

namespace Go.Proofs.Ythebbgobncbooaa.PIn
open Go.RowKit Go.Proofs.Ythebbgobncbooaa.P Go.Proofs.YthebbgobncbooaaW.PrintWords Go.Proofs.YthebbgobncbooaaW.PrintLast Go.Proofs.Ythebbgobncbooaa.PB
set_option linter.unusedVariables false

def inr (a lo hi : Int) : Bool := decide (lo ≤ a ∧ a ≤ hi)
theorem spec_in (a lo hi : Int) : spec_l1In.f a lo hi = some (inr a lo hi) := by
  unfold spec_l1In.f inr
  by_cases h : a ≥ lo
  · rw [if_pos h]; by_cases h2 : a ≤ hi <;> simp [h2] <;> omega
  · rw [if_neg h]; simp; omega
theorem impl_in (a lo hi : Int) : impl_within.f a lo hi = some (inr a lo hi) := by
  unfold impl_within.f inr
  by_cases h : a ≥ lo
  · rw [if_pos h]; by_cases h2 : a ≤ hi <;> simp [h2] <;> omega
  · rw [if_neg h]; simp; omega
end Go.Proofs.Ythebbgobncbooaa.PIn

namespace Go.Proofs.Ythebbgobncbooaa.PSchema
open Go.RowKit Go.Proofs.Ythebbgobncbooaa.P Go.Proofs.YthebbgobncbooaaW.PrintWords Go.Proofs.YthebbgobncbooaaW.PrintLast Go.Proofs.Ythebbgobncbooaa.PB Go.Proofs.Ythebbgobncbooaa.PIn
set_option linter.unusedVariables false
def isSchema (l : List Int) : Bool := (l.all fun n => inr n 1 3) && inr l.length 1 4
theorem all_cons {α : Type} (p : α → Bool) (x : α) (r : List α) : (x :: r).all p = (p x && r.all p) := rfl
theorem spec_schema (l : List Int) (hl : l.length ≤ 1048576) : Ev (fun k => spec_IsSchema.f k l) (isSchema l) := by
  have loop : ∀ (d i : Nat), i + d = l.length → Ev (fun k => spec_IsSchema.l0 k (i : Int) l) (((l.drop i).all fun n => inr n 1 3) && inr l.length 1 4) := by
    intro d
    induction d with
    | zero =>
      intro i hi
      obtain rfl : i = l.length := by omega
      refine Ev.step (fun k => by rw [spec_IsSchema.l0]) (Ev.neg (by omega) (Ev.bindc (spec_in _ _ _) (Ev.const ?_)))
      simp
    | succ d ih =>
      intro i hi
      have hlt : i < l.length := by omega
      refine Ev.step (fun k => by rw [spec_IsSchema.l0]) (Ev.pos (by omega) (Ev.pos (by omega) ?_))
      rw [rd_nat _ _ hlt, inc (by omega), drop_cons hlt, all_cons]
      refine Ev.bindc (spec_in _ _ _) ?_
      cases h : inr l[i] 1 3 with
      | true => exact Ev.pos rfl (Ev.eq (ih (i + 1) (by omega)) rfl (by simp only [Bool.true_and]))
      | false => exact Ev.neg (by simp) (Ev.const rfl)
  exact Ev.eq (loop l.length 0 (by omega)) (by funext k; rw [spec_IsSchema.f]; rfl) (by simp [isSchema])
theorem impl_schema (l : List Int) (hl : l.length ≤ 1048576) : Ev (fun k => impl_IsSchema.f k l) (isSchema l) := by
  have loop : ∀ (d i : Nat), i + d = l.length → Ev (fun k => impl_IsSchema.l0 k l (l.length : Int) (i : Int) l) (((l.drop i).all fun n => inr n 1 3) && inr l.length 1 4) := by
    intro d
    induction d with
    | zero =>
      intro i hi
      obtain rfl : i = l.length := by omega
      refine Ev.step (fun k => by rw [impl_IsSchema.l0]) (Ev.neg (by omega) (Ev.bindc (impl_in _ _ _) (Ev.const ?_)))
      simp
    | succ d ih =>
      intro i hi
      have hlt : i < l.length := by omega
      refine Ev.step (fun k => by rw [impl_IsSchema.l0]) (Ev.pos (by omega) (Ev.pos (by omega) (Ev.pos (by omega) ?_)))
      rw [rd_nat _ _ hlt, inc (by omega), drop_cons hlt, all_cons]
      refine Ev.bindc (impl_in _ _ _) ?_
      cases h : inr l[i] 1 3 with
      | true => exact Ev.pos rfl (Ev.eq (ih (i + 1) (by omega)) rfl (by simp only [Bool.true_and]))
      | false => exact Ev.neg (by simp) (Ev.const rfl)
  exact Ev.eq (loop l.length 0 (by omega)) (by funext k; rw [impl_IsSchema.f]; rfl) (by simp [isSchema])
/-- A valid schema has a relation with so many arguments. -/
def takes (s : List Int) (rel n : Int) : Bool := isSchema s && (inr rel 0 (s.length - 1) && (rd s rel == n))
end Go.Proofs.Ythebbgobncbooaa.PSchema

namespace Go.Proofs.Ythebbgobncbooaa.PTerm
open Go.RowKit Go.Proofs.Ythebbgobncbooaa.P Go.Proofs.YthebbgobncbooaaW.PrintWords Go.Proofs.YthebbgobncbooaaW.PrintLast Go.Proofs.Ythebbgobncbooaa.PB Go.Proofs.Ythebbgobncbooaa.PIn
set_option linter.unusedVariables false

theorem spec_var (t : Int) : spec_IsVar.f t = some (inr t 0 19) := by unfold spec_IsVar.f; rw [spec_in]; rfl
theorem impl_var (t : Int) : impl_IsVar.f t = some (inr t 0 19) := by unfold impl_IsVar.f; rw [impl_in]; rfl
theorem impl_term (t : Int) : impl_IsTerm.f t = some (inr t (-80) 19) := by unfold impl_IsTerm.f; rw [impl_in]; rfl
/-- The number of a constant, or -1. -/
def cst (t : Int) : Int := if inr t (-80) (-1) = true then -1 - t else -1
theorem spec_cst (t : Int) : spec_ConstOf.f t = some (cst t) := by
  unfold spec_ConstOf.f cst; rw [spec_in]; simp only [Option.bind_some]
  by_cases h : inr t (-80) (-1) = true
  · have h' : -80 ≤ t ∧ t ≤ -1 := by simpa [inr] using h
    rw [if_pos h, if_pos h, w64 (by omega) (by omega)]
  · rw [if_neg h, if_neg h]
theorem spec_term (t : Int) : spec_IsTerm.f t = some (inr t (-80) 19) := by
  unfold spec_IsTerm.f; rw [spec_var, spec_cst]; simp only [Option.bind_some]
  by_cases h2 : 0 ≤ t ∧ t ≤ 19
  · rw [if_pos (by simpa [inr] using h2)]; congr 1; unfold inr; symm; rw [decide_eq_true_eq]; omega
  · rw [if_neg (by simpa [inr] using h2)]
    by_cases h : -80 ≤ t ∧ t ≤ -1
    · have e : cst t = -1 - t := by rw [cst, if_pos (by simpa [inr] using h)]
      rw [e]; congr 1; unfold inr; rw [decide_eq_decide]; omega
    · have e : cst t = -1 := by rw [cst, if_neg (by simpa [inr] using h)]
      rw [e]; congr 1; unfold inr; rw [decide_eq_decide]; omega
end Go.Proofs.Ythebbgobncbooaa.PTerm

namespace Go.Proofs.Ythebbgobncbooaa.PQuery
open Go.RowKit Go.Proofs.Ythebbgobncbooaa.P Go.Proofs.YthebbgobncbooaaW.PrintWords Go.Proofs.YthebbgobncbooaaW.PrintLast Go.Proofs.Ythebbgobncbooaa.PB Go.Proofs.Ythebbgobncbooaa.PIn Go.Proofs.Ythebbgobncbooaa.PSchema Go.Proofs.Ythebbgobncbooaa.PTerm
set_option linter.unusedVariables false
theorem impl_takesQ (s : List Int) (rel n : Int) (hs : s.length ≤ 1048576) : Ev (fun k => impl_Schema_takes.f k s rel n) (takes s rel n) := by
  unfold impl_Schema_takes.f takes
  refine Ev.bind (impl_schema s hs) ?_
  cases h : isSchema s with
  | false => exact Ev.neg (by simp) (Ev.const rfl)
  | true =>
    refine Ev.pos rfl (Ev.bindc (impl_in _ _ _) ?_)
    rw [w64 (by omega) (by omega)]
    cases h2 : inr rel 0 (s.length - 1) with
    | false => exact Ev.neg (by simp) (Ev.const rfl)
    | true =>
      have h2' : 0 ≤ rel ∧ rel ≤ s.length - 1 := by simpa only [inr, decide_eq_true_eq] using h2
      exact Ev.pos rfl (Ev.pos (by omega) (Ev.pos (by omega) (Ev.const rfl)))
def areT (l : List Int) : Bool := l.all fun t => inr t (-80) 19
theorem impl_areT (l : List Int) (hl : l.length ≤ 1048576) : Ev (fun k => impl_areTerms.f k l) (areT l) := by
  have loop : ∀ (d i : Nat), i + d = l.length → Ev (fun k => impl_areTerms.l0 k l (l.length : Int) (i : Int)) (areT (l.drop i)) := by
    intro d
    induction d with
    | zero =>
      intro i hi
      obtain rfl : i = l.length := by omega
      rw [List.drop_length]; show Ev _ true
      exact Ev.step (fun k => by rw [impl_areTerms.l0]) (Ev.neg (by omega) (Ev.const rfl))
    | succ d ih =>
      intro i hi
      have hlt : i < l.length := by omega
      refine Ev.step (fun k => by rw [impl_areTerms.l0]) (Ev.pos (by omega) (Ev.pos (by omega) (Ev.pos (by omega) ?_)))
      rw [rd_nat _ _ hlt, inc (by omega), drop_cons hlt, areT, all_cons]
      refine Ev.bindc (impl_term _) ?_
      cases h : inr l[i] (-80) 19 with
      | true => exact Ev.pos rfl (Ev.eq (ih (i + 1) (by omega)) rfl (by simp only [Bool.true_and]; rfl))
      | false => exact Ev.neg (by simp) (Ev.const rfl)
  exact Ev.eq (loop l.length 0 (by omega)) (by funext k; rw [impl_areTerms.f]; rfl) (by simp)
theorem spec_areT (l : List Int) (hl : l.length ≤ 1048576) : Ev (fun k => spec_l3Terms.f k l) (areT l && decide (l.length ≤ 3)) := by
  have loop : ∀ (d i : Nat), i + d = l.length → Ev (fun k => spec_l3Terms.l0 k l (i : Int)) (areT (l.drop i) && decide (l.length ≤ 3)) := by
    intro d
    induction d with
    | zero =>
      intro i hi
      obtain rfl : i = l.length := by omega
      rw [List.drop_length]
      refine Ev.step (fun k => by rw [spec_l3Terms.l0]) (Ev.neg (by omega) (Ev.const ?_))
      simp [areT]; omega
    | succ d ih =>
      intro i hi
      have hlt : i < l.length := by omega
      refine Ev.step (fun k => by rw [spec_l3Terms.l0]) (Ev.pos (by omega) (Ev.pos (by omega) ?_))
      rw [rd_nat _ _ hlt, inc (by omega), drop_cons hlt, areT, all_cons]
      refine Ev.bindc (spec_term _) ?_
      cases h : inr l[i] (-80) 19 with
      | true => exact Ev.pos rfl (Ev.eq (ih (i + 1) (by omega)) rfl (by simp only [Bool.true_and]; rfl))
      | false => exact Ev.neg (by simp) (Ev.const rfl)
  exact Ev.eq (loop l.length 0 (by omega)) (by funext k; rw [spec_l3Terms.f]; rfl) (by simp)
def isAtom (s : List Int) (rel : Int) (args : List Int) : Bool := takes s rel args.length && areT args
theorem impl_isAtom (s : List Int) (rel : Int) (args : List Int) (hs : s.length ≤ 1048576) (ha : args.length ≤ 1048576) : Ev (fun k => impl_IsAtom.f k s rel args) (isAtom s rel args) := by
  unfold impl_IsAtom.f isAtom
  refine Ev.bind (impl_takesQ s rel _ hs) ?_
  cases h : takes s rel args.length with
  | false => exact Ev.neg (by simp) (Ev.const rfl)
  | true => exact Ev.pos rfl (Ev.bind (impl_areT args ha) (Ev.const rfl))
theorem takes_le {s : List Int} {rel n : Int} (h : takes s rel n = true) : n ≤ 3 := by
  simp only [takes, isSchema, Bool.and_eq_true, List.all_eq_true, beq_iff_eq] at h
  obtain ⟨⟨h1, h2⟩, h3, h4⟩ := h
  have h3' : 0 ≤ rel ∧ rel ≤ s.length - 1 := by simpa only [inr, decide_eq_true_eq] using h3
  have hm : rd s rel ∈ s := by
    unfold rd; rw [List.getD_eq_getElem?_getD, List.getElem?_eq_getElem (by omega)]; exact List.getElem_mem _
  have := h1 _ hm
  rw [h4] at this
  have := (by simpa only [inr, decide_eq_true_eq] using this : 1 ≤ n ∧ n ≤ 3)
  omega
theorem spec_isAtom (s : List Int) (rel : Int) (args : List Int) (hs : s.length ≤ 1048576) (ha : args.length ≤ 1048576) : Ev (fun k => spec_IsAtom.f k s rel args) (isAtom s rel args) := by
  unfold spec_IsAtom.f
  refine Ev.bind (spec_schema s hs) ?_
  cases h : isSchema s with
  | false => exact Ev.neg (by simp) (Ev.const (by simp [isAtom, takes, h]))
  | true =>
    refine Ev.pos rfl (Ev.bindc (spec_in _ _ _) ?_)
    rw [w64 (by omega) (by omega)]
    cases h2 : inr rel 0 (s.length - 1) with
    | false => exact Ev.neg (by simp) (Ev.const (by simp [isAtom, takes, h2]))
    | true =>
      have h2' : 0 ≤ rel ∧ rel ≤ s.length - 1 := by simpa only [inr, decide_eq_true_eq] using h2
      refine Ev.pos rfl (Ev.pos (by omega) (Ev.pos (by omega) ?_))
      by_cases h3 : (args.length : Int) = rd s rel
      · have ht : takes s rel args.length = true := by simp [takes, h, h2, h3]
        have hn := takes_le ht
        refine Ev.pos h3 (Ev.bind (spec_areT args ha) (Ev.const ?_))
        rw [isAtom, ht, decide_eq_true (by omega)]; simp
      · have ht : takes s rel args.length = false := by
          have e : (rd s rel == (args.length : Int)) = false := by simp; omega
          simp [takes, h, h2, e]
        refine Ev.neg h3 (Ev.const ?_)
        rw [isAtom, ht]; rfl
def has (l : List Int) (x : Int) : Bool := l.any fun y => y == x
theorem has_cons (y : Int) (r : List Int) (x : Int) : has (y :: r) x = (y == x || has r x) := rfl
theorem has_append (a b : List Int) (x : Int) : has (a ++ b) x = (has a x || has b x) := by simp [has]
theorem spec_has (l : List Int) (x : Int) (hl : l.length ≤ 4611686018427387000) : Ev (fun k => spec_l2Has.f k l x) (has l x) := by
  have loop : ∀ (d i : Nat), i + d = l.length → Ev (fun k => spec_l2Has.l0 k l x (i : Int)) (has (l.drop i) x) := by
    intro d
    induction d with
    | zero =>
      intro i hi
      obtain rfl : i = l.length := by omega
      rw [List.drop_length]; show Ev _ false
      exact Ev.step (fun k => by rw [spec_l2Has.l0]) (Ev.neg (by omega) (Ev.const rfl))
    | succ d ih =>
      intro i hi
      have hlt : i < l.length := by omega
      refine Ev.step (fun k => by rw [spec_l2Has.l0]) (Ev.pos (by omega) (Ev.pos (by omega) ?_))
      rw [rd_nat _ _ hlt, inc (by omega), drop_cons hlt, has_cons]
      by_cases h : l[i] = x
      · exact Ev.pos h (Ev.const (by simp [h]))
      · have e : (l[i] == x) = false := by simpa using h
        exact Ev.neg h (Ev.eq (ih (i + 1) (by omega)) rfl (by rw [e, Bool.false_or]))
  exact Ev.eq (loop l.length 0 (by omega)) (by funext k; rw [spec_l2Has.f]; rfl) (by simp)
theorem impl_has (l : List Int) (x : Int) (hl : l.length ≤ 4611686018427387000) : Ev (fun k => slices_Contains_int_int.f k l x) (has l x) := by
  have loop : ∀ (d i : Nat), i + d = l.length → ∃ r : Int, Ev (fun k => slices_Index_int_int.l0 k l x (l.length : Int) (i : Int)) r ∧ (decide (r ≥ 0) = has (l.drop i) x) := by
    intro d
    induction d with
    | zero =>
      intro i hi
      obtain rfl : i = l.length := by omega
      refine ⟨-1, Ev.step (fun k => by rw [slices_Index_int_int.l0]) (Ev.neg (by omega) (Ev.const rfl)), ?_⟩
      rw [List.drop_length]; rfl
    | succ d ih =>
      intro i hi
      have hlt : i < l.length := by omega
      obtain ⟨r, hr, he⟩ := ih (i + 1) (by omega)
      by_cases h : x = l[i]
      · refine ⟨i, Ev.step (fun k => by rw [slices_Index_int_int.l0]) (Ev.pos (by omega) (Ev.pos (by omega) (Ev.pos (by omega) ?_))), ?_⟩
        · rw [rd_nat _ _ hlt]; exact Ev.pos h (Ev.const rfl)
        · rw [drop_cons hlt, has_cons, ← h, decide_eq_true (by omega)]; simp
      · refine ⟨r, Ev.step (fun k => by rw [slices_Index_int_int.l0]) (Ev.pos (by omega) (Ev.pos (by omega) (Ev.pos (by omega) ?_))), ?_⟩
        · rw [rd_nat _ _ hlt, inc (by omega)]; exact Ev.neg h hr
        · have e : (l[i] == x) = false := by simp; omega
          rw [drop_cons hlt, has_cons, e, Bool.false_or]; exact he
  obtain ⟨r, hr, he⟩ := loop l.length 0 (by omega)
  rw [List.drop_zero] at he
  rw [← he]
  unfold slices_Contains_int_int.f slices_Index_int_int.f
  exact Ev.bind hr (Ev.const rfl)
def occ (body : List S177) (x : Int) : Bool := body.any fun a => has a.f1 x
theorem rdA (l : List S177) (i : Nat) (h : i < l.length) : rd_T177 l (i : Int) = l[i] := by rw [rd_T177]; exact getD_nat _ _ _ h
theorem impl_occ (head : List Int) (body : List S177) (x : Int) (hl : body.length ≤ 1048576) (ha : ∀ a ∈ body, a.f1.length ≤ 1048576) : Ev (fun k => impl_Query_occurs.f k head body x) (occ body x) := by
  have loop : ∀ (d i : Nat), i + d = body.length → Ev (fun k => impl_Query_occurs.l0 k x body (body.length : Int) (i : Int)) (occ (body.drop i) x) := by
    intro d
    induction d with
    | zero =>
      intro i hi
      obtain rfl : i = body.length := by omega
      rw [List.drop_length]; show Ev _ false
      exact Ev.step (fun k => by rw [impl_Query_occurs.l0]) (Ev.neg (by omega) (Ev.const rfl))
    | succ d ih =>
      intro i hi
      have hlt : i < body.length := by omega
      have h1 := ha _ (List.getElem_mem hlt)
      refine Ev.step (fun k => by rw [impl_Query_occurs.l0]) (Ev.pos (by omega) (Ev.pos (by omega) (Ev.pos (by omega) ?_)))
      rw [rdA _ _ hlt, inc (by omega), drop_cons hlt]
      refine Ev.bind (impl_has _ x (by omega)) ?_
      show Ev _ (has (body[i]).f1 x || occ (body.drop (i + 1)) x)
      cases h : has (body[i]).f1 x with
      | true => exact Ev.pos rfl (Ev.const rfl)
      | false => exact Ev.neg (by simp) (Ev.eq (ih (i + 1) (by omega)) rfl (by rw [Bool.false_or]))
  exact Ev.eq (loop body.length 0 (by omega)) (by funext k; rw [impl_Query_occurs.f]; rfl) (by simp)
def safe (body : List S177) (head : List Int) : Bool := head.all fun t => !(inr t 0 19) || occ body t
theorem impl_safe (head : List Int) (body : List S177) (hh : head.length ≤ 1048576) (hl : body.length ≤ 1048576) (ha : ∀ a ∈ body, a.f1.length ≤ 1048576) : Ev (fun k => impl_Query_isSafe.f k head body) (safe body head) := by
  have loop : ∀ (d i : Nat), i + d = head.length → Ev (fun k => impl_Query_isSafe.l0 k head (head.length : Int) (i : Int) head body) (safe body (head.drop i)) := by
    intro d
    induction d with
    | zero =>
      intro i hi
      obtain rfl : i = head.length := by omega
      rw [List.drop_length]; show Ev _ true
      exact Ev.step (fun k => by rw [impl_Query_isSafe.l0]) (Ev.neg (by omega) (Ev.const rfl))
    | succ d ih =>
      intro i hi
      have hlt : i < head.length := by omega
      refine Ev.step (fun k => by rw [impl_Query_isSafe.l0]) (Ev.pos (by omega) (Ev.pos (by omega) (Ev.pos (by omega) ?_)))
      rw [rd_nat _ _ hlt, inc (by omega), drop_cons hlt]
      show Ev _ ((!(inr head[i] 0 19) || occ body head[i]) && safe body (head.drop (i + 1)))
      refine Ev.bindc (impl_var _) ?_
      cases h : inr head[i] 0 19 with
      | false => exact Ev.neg (by simp) (Ev.eq (ih (i + 1) (by omega)) rfl (by simp))
      | true =>
        refine Ev.pos rfl (Ev.bind (impl_occ head body _ hl ha) ?_)
        cases h2 : occ body head[i] with
        | true => exact Ev.pos rfl (Ev.eq (ih (i + 1) (by omega)) rfl (by simp))
        | false => exact Ev.neg (by simp) (Ev.const rfl)
  exact Ev.eq (loop head.length 0 (by omega)) (by funext k; rw [impl_Query_isSafe.f]; rfl) (by simp)
def addV (acc : List Int) (t : Int) : List Int := if t ≥ 0 then (if has acc t = true then acc else acc ++ [t]) else acc
def addA (acc : List Int) (args : List Int) : List Int := args.foldl addV acc
def bv (body : List S177) : List Int := body.foldl (fun acc a => addA acc a.f1) []
theorem addV_has (acc : List Int) (t x : Int) (hx : 0 ≤ x) : has (addV acc t) x = (has acc x || (t == x)) := by
  unfold addV
  by_cases h : t ≥ 0
  · rw [if_pos h]
    by_cases h2 : has acc t = true
    · rw [if_pos h2]
      by_cases h3 : t = x
      · subst h3; rw [h2]; rfl
      · have e : (t == x) = false := by simpa using h3
        rw [e, Bool.or_false]
    · rw [if_neg h2, has_append]; simp [has]
  · have e : (t == x) = false := by simp; omega
    rw [if_neg h, e, Bool.or_false]
theorem addA_has (args : List Int) : ∀ (acc : List Int) (x : Int), 0 ≤ x → has (addA acc args) x = (has acc x || has args x) := by
  induction args with
  | nil => intro acc x hx; simp [addA, has]
  | cons t r ih =>
    intro acc x hx
    have := ih (addV acc t) x hx
    unfold addA at this ⊢
    rw [List.foldl_cons, this, addV_has _ _ _ hx, has_cons, Bool.or_assoc]
theorem bv_has (body : List S177) (x : Int) (hx : 0 ≤ x) : has (bv body) x = occ body x := by
  have key : ∀ (body : List S177) (acc : List Int), has (body.foldl (fun acc a => addA acc a.f1) acc) x = (has acc x || occ body x) := by
    intro body
    induction body with
    | nil => intro acc; simp [occ]
    | cons a r ih =>
      intro acc
      rw [List.foldl_cons, ih, addA_has _ _ _ hx, Bool.or_assoc]; rfl
  have := key body []
  unfold bv; rw [this]; simp [has]
theorem addV_len (acc : List Int) (t : Int) : (addV acc t).length ≤ acc.length + 1 := by
  unfold addV; split
  · split
    · omega
    · simp
  · omega
theorem addA_len (args : List Int) : ∀ acc : List Int, (addA acc args).length ≤ acc.length + args.length := by
  induction args with
  | nil => intro acc; simp [addA]
  | cons t r ih =>
    intro acc
    have h1 := ih (addV acc t); have h2 := addV_len acc t
    unfold addA at h1 ⊢
    rw [List.foldl_cons, List.length_cons]; omega
def asum (body : List S177) : Nat := tsum (fun a : S177 => a.f1.length) body
theorem spec_bv (head : List Int) (body : List S177) (hl : body.length ≤ 1048576) (ha : asum body ≤ 1099511627776) : Ev (fun k => spec_l4BodyVars.f k head body) (bv body) := by
  have inner : ∀ (i : Nat) (hi : i < body.length) (res : List Int), ∀ (d j : Nat) (acc : List Int), j + d = (body[i]).f1.length → acc.length + d ≤ 17592186044415 →
      Ev (fun k => spec_l4BodyVars.l0 k (addA acc ((body[i]).f1.drop j)) ((i + 1 : Nat) : Int) head body) res →
      Ev (fun k => spec_l4BodyVars.l1 k acc (i : Int) (j : Int) head body) res := by
    intro i hi res d
    have hm : (body[i]).f1.length ≤ asum body := tsum_mem (fun a : S177 => a.f1.length) (List.getElem_mem hi)
    induction d with
    | zero =>
      intro j acc hj hacc hn
      refine Ev.step (fun k => by rw [spec_l4BodyVars.l1]) (Ev.pos (by omega) (Ev.pos (by omega) ?_))
      rw [rdA _ _ hi, inc (i := i) (by omega)]
      rw [List.drop_of_length_le (by omega)] at hn
      exact Ev.neg (by omega) hn
    | succ d ih =>
      intro j acc hj hacc hn
      have hlt : j < (body[i]).f1.length := by omega
      refine Ev.step (fun k => by rw [spec_l4BodyVars.l1]) (Ev.pos (by omega) (Ev.pos (by omega) ?_))
      rw [rdA _ _ hi]
      refine Ev.pos (by omega) (Ev.pos (by omega) ?_)
      rw [rd_nat _ _ hlt, inc (by omega)]
      rw [drop_cons hlt] at hn
      have hn' : Ev (fun k => spec_l4BodyVars.l0 k (addA (addV acc ((body[i]).f1)[j]) ((body[i]).f1.drop (j + 1))) ((i + 1 : Nat) : Int) head body) res := hn
      have hv := addV_len acc ((body[i]).f1)[j]
      have nx := ih (j + 1) (addV acc ((body[i]).f1)[j]) (by omega) (by omega) hn'
      by_cases h : ((body[i]).f1)[j] ≥ 0
      · refine Ev.pos h (Ev.bind (spec_has acc _ (by omega)) ?_)
        cases h2 : has acc ((body[i]).f1)[j] with
        | true =>
          have e : addV acc ((body[i]).f1)[j] = acc := by unfold addV; rw [if_pos h, if_pos h2]
          rw [e] at nx; exact Ev.pos rfl nx
        | false =>
          have e : addV acc ((body[i]).f1)[j] = acc ++ [((body[i]).f1)[j]] := by unfold addV; rw [if_pos h, if_neg (by simp [h2])]
          rw [e] at nx; exact Ev.neg (by simp) (Ev.pos (by omega) nx)
      · have e : addV acc ((body[i]).f1)[j] = acc := by unfold addV; rw [if_neg h]
        rw [e] at nx; exact Ev.neg h nx
  have loop : ∀ (d i : Nat) (acc : List Int), i + d = body.length → acc.length + asum (body.drop i) ≤ 17592186044415 →
      Ev (fun k => spec_l4BodyVars.l0 k acc (i : Int) head body) ((body.drop i).foldl (fun acc a => addA acc a.f1) acc) := by
    intro d
    induction d with
    | zero =>
      intro i acc hi hacc
      rw [List.drop_of_length_le (by omega)]; show Ev _ acc
      exact Ev.step (fun k => by rw [spec_l4BodyVars.l0]) (Ev.neg (by omega) (Ev.const rfl))
    | succ d ih =>
      intro i acc hi hacc
      have hlt : i < body.length := by omega
      rw [drop_cons hlt] at hacc ⊢
      have hs : asum (body[i] :: body.drop (i + 1)) = (body[i]).f1.length + asum (body.drop (i + 1)) := rfl
      rw [hs] at hacc
      have hal := addA_len (body[i]).f1 acc
      refine Ev.step (fun k => by rw [spec_l4BodyVars.l0]) (Ev.pos (by omega) ?_)
      refine inner i hlt _ (body[i]).f1.length 0 acc (by omega) (by omega) ?_
      rw [List.drop_zero, List.foldl_cons]
      exact ih (i + 1) (addA acc (body[i]).f1) (by omega) (by omega)
  exact Ev.eq (loop body.length 0 [] (by omega) (by simpa using by omega)) (by funext k; rw [spec_l4BodyVars.f]; rfl) (by simp [bv])
theorem asum_occ_len (body : List S177) : (bv body).length ≤ asum body := by
  have key : ∀ (body : List S177) (acc : List Int), (body.foldl (fun acc a => addA acc a.f1) acc).length ≤ acc.length + asum body := by
    intro body
    induction body with
    | nil => intro acc; simp [asum, tsum]
    | cons a r ih =>
      intro acc
      have h1 := ih (addA acc a.f1); have h2 := addA_len a.f1 acc
      have hs : asum (a :: r) = a.f1.length + asum r := rfl
      rw [List.foldl_cons, hs]; omega
  have := key body []
  unfold bv; simpa using this
def isQuery (s head : List Int) (body : List S177) : Bool := isSchema s && ((areT head && decide (head.length ≤ 3)) && (inr body.length 1 4 && ((body.all fun a => isAtom s a.f0 a.f1) && safe body head)))
theorem impl_isQuery (s head : List Int) (body : List S177) (hs : s.length ≤ 1048576) (hh : head.length ≤ 1048576) (hl : body.length ≤ 1048576) (ha : ∀ a ∈ body, a.f1.length ≤ 1048576) :
    Ev (fun k => impl_IsQuery.f k s head body) (isQuery s head body) := by
  have loop : ∀ (d i : Nat), i + d = body.length → Ev (fun k => impl_IsQuery.l0 k body (body.length : Int) (i : Int) s head body) (((body.drop i).all fun a => isAtom s a.f0 a.f1) && safe body head) := by
    intro d
    induction d with
    | zero =>
      intro i hi
      rw [List.drop_of_length_le (by omega)]
      exact Ev.eq (Ev.step (fun k => by rw [impl_IsQuery.l0]) (Ev.neg (by omega) (Ev.bind (impl_safe head body hh hl ha) (Ev.const rfl)))) rfl (by simp)
    | succ d ih =>
      intro i hi
      have hlt : i < body.length := by omega
      refine Ev.step (fun k => by rw [impl_IsQuery.l0]) (Ev.pos (by omega) (Ev.pos (by omega) (Ev.pos (by omega) ?_)))
      rw [rdA _ _ hlt, inc (by omega), drop_cons hlt, all_cons]
      refine Ev.bind (impl_isAtom s _ _ hs (ha _ (List.getElem_mem hlt))) ?_
      cases h : isAtom s (body[i]).f0 (body[i]).f1 with
      | true => exact Ev.pos rfl (Ev.eq (ih (i + 1) (by omega)) rfl (by simp only [Bool.true_and]))
      | false => exact Ev.neg (by simp) (Ev.const rfl)
  have out : Ev (fun k => impl_IsQuery.j0 k true s head body) false := Ev.step (fun k => by rw [impl_IsQuery.j0]) (Ev.pos rfl (Ev.const rfl))
  have go : ∀ (hn : inr body.length 1 4 = true), Ev (fun k => impl_IsQuery.j0 k false s head body) ((body.all fun a => isAtom s a.f0 a.f1) && safe body head) := by
    intro hn
    refine Ev.step (fun k => by rw [impl_IsQuery.j0]) (Ev.neg (by simp) ?_)
    exact Ev.eq (loop body.length 0 (by omega)) rfl (by simp)
  unfold impl_IsQuery.f isQuery
  refine Ev.bind (impl_schema s hs) ?_
  cases h : isSchema s with
  | false => exact Ev.neg (by simp) out
  | true =>
    refine Ev.pos rfl ?_
    by_cases h2 : head.length ≤ 3
    · refine Ev.neg (by omega) (Ev.bind (impl_areT head hh) ?_)
      rw [decide_eq_true h2]
      cases h3 : areT head with
      | false => exact Ev.neg (by simp) out
      | true =>
        refine Ev.pos rfl (Ev.bindc (impl_in _ _ _) ?_)
        cases h4 : inr body.length 1 4 with
        | false => exact out
        | true => exact Ev.eq (go h4) rfl (by simp)
    · refine Ev.pos (by omega) ?_
      rw [decide_eq_false h2]
      exact Ev.eq out rfl (by simp)
theorem spec_fine (s head : List Int) (body : List S177) (hs : s.length ≤ 1048576) (hh : head.length ≤ 1048576) (hl : body.length ≤ 1048576) (ha : ∀ a ∈ body, a.f1.length ≤ 1048576) (hsum : asum body ≤ 1099511627776) :
    Ev (fun k => spec_l4Fine.f k s head body 4) (isQuery s head body) := by
  have hb := asum_occ_len body
  have loop1 : ∀ (d i : Nat), i + d = head.length → Ev (fun k => spec_l4Fine.l1 k (i : Int) head body) (safe body (head.drop i)) := by
    intro d
    induction d with
    | zero =>
      intro i hi
      rw [List.drop_of_length_le (by omega)]; show Ev _ true
      exact Ev.step (fun k => by rw [spec_l4Fine.l1]) (Ev.neg (by omega) (Ev.const rfl))
    | succ d ih =>
      intro i hi
      have hlt : i < head.length := by omega
      refine Ev.step (fun k => by rw [spec_l4Fine.l1]) (Ev.pos (by omega) (Ev.pos (by omega) ?_))
      rw [rd_nat _ _ hlt, inc (by omega), drop_cons hlt]
      show Ev _ ((!(inr head[i] 0 19) || occ body head[i]) && safe body (head.drop (i + 1)))
      refine Ev.bindc (spec_var _) ?_
      cases h : inr head[i] 0 19 with
      | false => exact Ev.neg (by simp) (Ev.eq (ih (i + 1) (by omega)) rfl (by simp))
      | true =>
        have h' : 0 ≤ head[i] ∧ head[i] ≤ 19 := by simpa only [inr, decide_eq_true_eq] using h
        refine Ev.pos rfl (Ev.bind (spec_bv head body hl hsum) (Ev.bind (spec_has _ _ (by omega)) ?_))
        rw [bv_has body _ h'.1]
        cases h2 : occ body head[i] with
        | true => exact Ev.pos rfl (Ev.eq (ih (i + 1) (by omega)) rfl (by simp))
        | false => exact Ev.neg (by simp) (Ev.const rfl)
  have h0 : Ev (fun k => spec_l4Fine.l1 k 0 head body) (safe body head) := loop1 head.length 0 (by omega)
  have loop : ∀ (d i : Nat), i + d = body.length → Ev (fun k => spec_l4Fine.l0 k (i : Int) s head body) (((body.drop i).all fun a => isAtom s a.f0 a.f1) && safe body head) := by
    intro d
    induction d with
    | zero =>
      intro i hi
      rw [List.drop_of_length_le (by omega)]; show Ev _ (safe body head)
      exact Ev.step (fun k => by rw [spec_l4Fine.l0]) (Ev.neg (by omega) h0)
    | succ d ih =>
      intro i hi
      have hlt : i < body.length := by omega
      refine Ev.step (fun k => by rw [spec_l4Fine.l0]) (Ev.pos (by omega) (Ev.pos (by omega) ?_))
      rw [rdA _ _ hlt, inc (by omega), drop_cons hlt, all_cons]
      refine Ev.bind (spec_isAtom s _ _ hs (ha _ (List.getElem_mem hlt))) ?_
      cases h : isAtom s (body[i]).f0 (body[i]).f1 with
      | true => exact Ev.pos rfl (Ev.eq (ih (i + 1) (by omega)) rfl (by simp only [Bool.true_and]))
      | false => exact Ev.neg (by simp) (Ev.const rfl)
  have out : Ev (fun k => spec_l4Fine.j0 k true s head body) false := Ev.step (fun k => by rw [spec_l4Fine.j0]) (Ev.pos rfl (Ev.const rfl))
  have go : Ev (fun k => spec_l4Fine.j0 k false s head body) ((body.all fun a => isAtom s a.f0 a.f1) && safe body head) := by
    refine Ev.step (fun k => by rw [spec_l4Fine.j0]) (Ev.neg (by simp) ?_)
    exact Ev.eq (loop body.length 0 (by omega)) rfl (by simp)
  unfold spec_l4Fine.f isQuery
  refine Ev.bind (spec_schema s hs) ?_
  cases h : isSchema s with
  | false => exact Ev.neg (by simp) out
  | true =>
    refine Ev.pos rfl (Ev.bind (spec_areT head hh) ?_)
    cases h3 : (areT head && decide (head.length ≤ 3)) with
    | false => exact Ev.neg (by simp) out
    | true =>
      refine Ev.pos rfl (Ev.bindc (spec_in _ _ _) ?_)
      cases h4 : inr body.length 1 4 with
      | false => exact out
      | true => exact Ev.eq go rfl (by simp)
theorem spec_isQuery (s head : List Int) (body : List S177) (hs : s.length ≤ 1048576) (hh : head.length ≤ 1048576) (hl : body.length ≤ 1048576) (ha : ∀ a ∈ body, a.f1.length ≤ 1048576) (hsum : asum body ≤ 1099511627776) :
    Ev (fun k => spec_IsQuery.f k s head body) (isQuery s head body) := by
  unfold spec_IsQuery.f
  exact Ev.bind (spec_fine s head body hs hh hl ha hsum) (Ev.const rfl)
end Go.Proofs.Ythebbgobncbooaa.PQuery

namespace Go.Proofs.Ythebbgobncbooaa.PLess
open Go.RowKit Go.Proofs.Ythebbgobncbooaa.P Go.Proofs.YthebbgobncbooaaW.PrintWords Go.Proofs.YthebbgobncbooaaW.PrintLast Go.Proofs.Ythebbgobncbooaa.PB
set_option linter.unusedVariables false
/-- -1, 0 or 1: by the first number that differs; a list comes before longer ones that begin with it. -/
def cmpL : List Int → List Int → Int
  | [], [] => 0
  | [], _ :: _ => -1
  | _ :: _, [] => 1
  | x :: a, y :: b => if x < y then -1 else if x > y then 1 else cmpL a b
theorem cmp_ev (x y : Int) : cmp_Compare_int.f x y = some (if x < y then -1 else if x > y then 1 else 0) := by
  unfold cmp_Compare_int.f cmp_isNaN_int.f
  simp only [Option.bind_some, bne_self_eq_false, Bool.false_eq_true, if_false]
  split
  · rfl
  · split <;> rfl
theorem compare_ev (a b : List Int) (ha : a.length ≤ 1048576) (hb : b.length ≤ 1048576) : Ev (fun k => slices_Compare_int_int.f k a b) (cmpL a b) := by
  have loop : ∀ (d i : Nat), i + d = a.length → i ≤ b.length → Ev (fun k => slices_Compare_int_int.l0 k a b a (a.length : Int) (i : Int)) (cmpL (a.drop i) (b.drop i)) := by
    intro d
    induction d with
    | zero =>
      intro i hi hj
      obtain rfl : i = a.length := by omega
      refine Ev.step (fun k => by rw [slices_Compare_int_int.l0]) (Ev.neg (by omega) ?_)
      rw [List.drop_length]
      by_cases h : a.length < b.length
      · refine Ev.pos (by omega) (Ev.const ?_)
        rw [drop_cons h]; rfl
      · refine Ev.neg (by omega) (Ev.const ?_)
        rw [List.drop_of_length_le (show b.length ≤ a.length by omega)]; rfl
    | succ d ih =>
      intro i hi hj
      have hlt : i < a.length := by omega
      refine Ev.step (fun k => by rw [slices_Compare_int_int.l0]) (Ev.pos (by omega) (Ev.pos (by omega) (Ev.pos (by omega) ?_)))
      by_cases h : i < b.length
      · refine Ev.neg (by omega) (Ev.pos (by omega) ?_)
        rw [rd_nat _ _ hlt, rd_nat _ _ h, inc (by omega), drop_cons hlt, drop_cons h, cmpL]
        refine Ev.bindc (cmp_ev _ _) ?_
        by_cases h1 : a[i] < b[i]
        · simp only [if_pos h1]; exact Ev.neg (by omega) (Ev.const rfl)
        · by_cases h2 : a[i] > b[i]
          · simp only [if_neg h1, if_pos h2]; exact Ev.neg (by omega) (Ev.const rfl)
          · simp only [if_neg h1, if_neg h2]; exact Ev.pos trivial (ih (i + 1) (by omega) (by omega))
      · refine Ev.pos (by omega) (Ev.const ?_)
        rw [drop_cons hlt, List.drop_of_length_le (show b.length ≤ i by omega)]; rfl
  exact Ev.eq (loop a.length 0 (by omega) (by omega)) (by funext k; rw [slices_Compare_int_int.f]; rfl) (by simp)
theorem less_ev (a b : List Int) (ha : a.length ≤ 1048576) (hb : b.length ≤ 1048576) : Ev (fun k => spec_l2Less.f k a b) (decide (cmpL a b < 0)) := by
  have loop : ∀ (d i : Nat), i + d = a.length → i ≤ b.length → Ev (fun k => spec_l2Less.l0 k a b (i : Int)) (decide (cmpL (a.drop i) (b.drop i) < 0)) := by
    intro d
    induction d with
    | zero =>
      intro i hi hj
      obtain rfl : i = a.length := by omega
      refine Ev.step (fun k => by rw [spec_l2Less.l0]) (Ev.neg (by omega) (Ev.step (fun k => by rw [spec_l2Less.j1]) (Ev.neg (by simp) (Ev.const ?_))))
      rw [List.drop_length]
      by_cases h : a.length < b.length
      · rw [drop_cons h, decide_eq_true (by omega)]; rfl
      · rw [List.drop_of_length_le (show b.length ≤ a.length by omega), decide_eq_false (by omega)]; rfl
    | succ d ih =>
      intro i hi hj
      have hlt : i < a.length := by omega
      refine Ev.step (fun k => by rw [spec_l2Less.l0]) (Ev.pos (by omega) (Ev.step (fun k => by rw [spec_l2Less.j1]) ?_))
      by_cases h : i < b.length
      · refine Ev.pos (decide_eq_true (by omega)) (Ev.pos (by omega) (Ev.pos (by omega) (Ev.pos (by omega) ?_)))
        rw [rd_nat _ _ hlt, rd_nat _ _ h, inc (by omega), drop_cons hlt, drop_cons h, cmpL]
        by_cases h1 : a[i] < b[i]
        · refine Ev.neg (by omega) (Ev.const ?_)
          rw [if_pos h1, decide_eq_true h1]; rfl
        · by_cases h2 : a[i] > b[i]
          · refine Ev.neg (by omega) (Ev.const ?_)
            rw [if_neg h1, if_pos h2, decide_eq_false h1]; rfl
          · simp only [if_neg h1, if_neg h2]; exact Ev.pos (by omega) (ih (i + 1) (by omega) (by omega))
      · refine Ev.neg (by simp; omega) (Ev.const ?_)
        rw [drop_cons hlt, List.drop_of_length_le (show b.length ≤ i by omega), decide_eq_false (by omega)]; rfl
  exact Ev.eq (loop a.length 0 (by omega) (by omega)) (by funext k; rw [spec_l2Less.f]; rfl) (by simp)
end Go.Proofs.Ythebbgobncbooaa.PLess

namespace Go.Proofs.Ythebbgobncbooaa.PVals
open Go.RowKit Go.Proofs.Ythebbgobncbooaa.P Go.Proofs.YthebbgobncbooaaW.PrintWords Go.Proofs.YthebbgobncbooaaW.PrintLast Go.Proofs.Ythebbgobncbooaa.PB Go.Proofs.Ythebbgobncbooaa.PIn
set_option linter.unusedVariables false
def vals (l : List Int) : Bool := l.all fun x => inr x 0 99
theorem values_loop (l : List Int) (hl : l.length ≤ 4611686018427387000) : ∀ (d i : Nat), i + d = l.length → Ev (fun k => impl_areValues.l0 k l (l.length : Int) (i : Int)) (vals (l.drop i)) := by
  intro d
  induction d with
  | zero =>
    intro i hi
    obtain rfl : i = l.length := by omega
    refine Ev.step (fun k => by rw [impl_areValues.l0]) (Ev.neg (by omega) (Ev.const ?_))
    simp [vals]
  | succ d ih =>
    intro i hi
    have hlt : i < l.length := by omega
    refine Ev.step (fun k => by rw [impl_areValues.l0]) (Ev.pos (by omega) (Ev.pos (by omega) (Ev.pos (by omega) ?_)))
    rw [rd_nat _ _ hlt, inc (by omega), drop_cons hlt]
    refine Ev.bindc (impl_in _ _ _) ?_
    by_cases h : inr l[i] 0 99 = true
    · refine Ev.pos h (Ev.eq (ih (i + 1) (by omega)) rfl ?_)
      simp [vals, h, -List.getElem_cons_drop]
    · refine Ev.neg h (Ev.const ?_)
      simp [vals, h, -List.getElem_cons_drop]
theorem values_ev (l : List Int) (hl : l.length ≤ 4611686018427387000) : Ev (fun k => impl_areValues.f k l) (vals l) :=
  Ev.eq (values_loop l hl l.length 0 (by omega)) (by funext k; rw [impl_areValues.f]; rfl) (by simp)
end Go.Proofs.Ythebbgobncbooaa.PVals

namespace Go.Proofs.Ythebbgobncbooaa.PLaw
open Go.RowKit Go.Proofs.Ythebbgobncbooaa.P Go.Proofs.YthebbgobncbooaaW.PrintWords Go.Proofs.YthebbgobncbooaaW.PrintLast Go.Proofs.Ythebbgobncbooaa.PB
set_option linter.unusedVariables false

def qIntS (l : List Int) : Prop := l.length ≤ 9223372036854775807 ∧ ∀ x ∈ l, (Lit.int .i64 x).wf = true
def nIntS (l : List Int) : Nat := l.length
def cIntS (l : List Int) : List Int := l
theorem szIntS (l : List Int) (a : Int) (h0 : 0 ≤ a) (h1 : a ≤ 1048576) (hl : qIntS l) : Ev (fun k => laws_szIntS.f l a) (if a < nIntS l then -1 else a - nIntS l) := by
  have hl1 := hl.1
  refine Ev.const ?_
  unfold laws_szIntS.f nIntS
  rw [w64 (by omega) (by omega)]
  by_cases h : a < l.length
  · rw [if_pos (by omega), if_pos h]
  · rw [if_neg (by omega), if_neg h]
theorem toIntS_loop (l : List Int) (hn : nIntS l ≤ 1048576) : ∀ (d i : Nat), i + d = l.length → Ev (fun k => laws_toIntS.l0 k l (cIntS (l.take i) ++ List.replicate d 0) (i : Int)) (cIntS l) := by
  have hlen : l.length ≤ 1048576 := by unfold nIntS at hn; omega
  intro d
  induction d with
  | zero =>
    intro i hi
    obtain rfl : i = l.length := by omega
    refine Ev.step (fun k => by rw [laws_toIntS.l0]) (Ev.neg (by omega) (Ev.const ?_))
    simp
  | succ d ih =>
    intro i hi
    have hlt : i < l.length := by omega
    refine Ev.step (fun k => by rw [laws_toIntS.l0]) (Ev.pos (by omega) (Ev.pos (by omega) ?_))
    rw [rd_nat _ _ hlt, inc (by omega)]
    refine Ev.pos (by simp [cIntS]; omega) ?_
    refine Ev.eq (ih (i + 1) (by omega)) ?_ rfl
    funext k
    have e : ((i : Int)).toNat = i := by omega
    have el : (cIntS (l.take i)).length = i := by simp [cIntS]; omega
    rw [e, fill_set' _ _ _ _ _ el, take_snoc hlt]
    try rfl
theorem toIntS (l : List Int) (hn : nIntS l ≤ 1048576) : Ev (fun k => laws_toIntS.f k l) (cIntS l) := by
  have h := toIntS_loop l hn l.length 0 (by omega)
  have hlen : l.length ≤ 1048576 := by unfold nIntS at hn; omega
  refine Ev.eq (Ev.pos (c := 0 ≤ (l.length : Int)) (g := fun _ => none) (by omega) (Ev.pos (c := ((l.length : Int) : Int).toNat ≤ 35184372088832) (g := fun _ => none) (by omega) h)) ?_ rfl
  funext k
  rw [laws_toIntS.f]; simp [cIntS]
theorem eqIntS_loop (l : List Int) (hl : l.length ≤ 4611686018427387000) : ∀ (d i : Nat), i + d = l.length → Ev (fun k => laws_eqIntS.l0 k l l (i : Int)) true := by
  intro d
  induction d with
  | zero =>
    intro i hi
    exact Ev.step (fun k => by rw [laws_eqIntS.l0]) (Ev.neg (by omega) (Ev.const rfl))
  | succ d ih =>
    intro i hi
    have hlt : i < l.length := by omega
    refine Ev.step (fun k => by rw [laws_eqIntS.l0]) (Ev.pos (by omega) (Ev.pos (by omega) (Ev.pos (by omega) (Ev.pos rfl ?_))))
    rw [inc (by omega)]
    exact ih (i + 1) (by omega)
theorem eqIntS (l : List Int) (hm : l.length ≤ 4611686018427387000) : Ev (fun k => laws_eqIntS.f k l l) true :=
  Ev.eq (Ev.pos (c := (l.length : Int) = l.length) (g := fun _ => some false) rfl (eqIntS_loop l hm l.length 0 (by omega))) (by funext k; rw [laws_eqIntS.f]; rfl) rfl
theorem mcIntS {l : List Int} (hn : nIntS l ≤ 1048576) : (cIntS l).length ≤ 4611686018427387000 := by unfold nIntS at hn; show l.length ≤ _; omega
end Go.Proofs.Ythebbgobncbooaa.PLaw

namespace Go.Proofs.Ythebbgobncbooaa.PLaw
open Go.RowKit Go.Proofs.Ythebbgobncbooaa.P Go.Proofs.YthebbgobncbooaaW.PrintWords Go.Proofs.YthebbgobncbooaaW.PrintLast Go.Proofs.Ythebbgobncbooaa.PB
set_option linter.unusedVariables false

def qAtom (x : S197) : Prop := ((Lit.int .i64 x.f0).wf = true) ∧ (qIntS x.f1)
def nAtom (x : S197) : Nat := nIntS x.f1
def cAtom (x : S197) : S177 := ⟨x.f0, cIntS x.f1⟩
def qAtomS (l : List S197) : Prop := l.length ≤ 9223372036854775807 ∧ ∀ x ∈ l, qAtom x
def nAtomS (l : List S197) : Nat := l.length + tsum nAtom l
def cAtomS (l : List S197) : List S177 := l.map cAtom
def mAtom (x : S177) : Prop := (True) ∧ (x.f1.length ≤ 4611686018427387000)
def mAtomS (l : List S177) : Prop := l.length ≤ 4611686018427387000 ∧ ∀ x ∈ l, mAtom x
theorem szAtom (x0 : Int) (x1 : List Int) (a : Int) (h0 : 0 ≤ a) (h1 : a ≤ 1048576) (qx0_ : (Lit.int .i64 x0).wf = true) (qx1_ : qIntS x1) : Ev (fun k => laws_szAtom.f x0 x1 a) (if a < ((nIntS x1 : Nat) : Int) then -1 else a - ((nIntS x1 : Nat) : Int)) := by
  unfold laws_szAtom.f
  have g0 : a ≤ 1048576 := by first | omega | exact h1
  refine Ev.bind (szIntS x1 a (by omega) (by omega) qx1_) ?_
  by_cases c0 : a < ((nIntS x1 : Nat) : Int)
  · rw [if_pos c0]
    exact Ev.pos (by omega) (Ev.const (by first | rfl | rw [if_pos (by omega)]))
  rw [if_neg c0]
  refine Ev.neg (by omega) ?_
  have e0 : a - ((nIntS x1 : Nat) : Int) = (a - ((nIntS x1 : Nat) : Int)) := by omega
  rw [e0]
  exact Ev.const (by first | rfl | rw [if_neg (by omega)])
theorem szAtomS_loop (l : List S197) (hl : l.length ≤ 1048576) (hb : ∀ x ∈ l, qAtom x) : ∀ (d i : Nat) (a : Int), i + d = l.length → 0 ≤ a → a ≤ 1048576 →
    Ev (fun k => laws_szAtomS.l0 k l a (i : Int)) (if a < tsum nAtom (l.drop i) then -1 else a - tsum nAtom (l.drop i)) := by
  intro d
  induction d with
  | zero =>
    intro i a hi h0 h1
    obtain rfl : i = l.length := by omega
    refine Ev.step (fun k => by rw [laws_szAtomS.l0]) (Ev.neg (by omega) (Ev.const ?_))
    simp [tsum]; omega
  | succ d ih =>
    intro i a hi h0 h1
    have hlt : i < l.length := by omega
    rw [drop_cons hlt, tsum_cons]
    refine Ev.step (fun k => by rw [laws_szAtomS.l0]) (Ev.pos (by omega) (Ev.pos (by omega) ?_))
    have e : rd_T197 l (i : Int) = l[i] := by rw [rd_T197]; exact getD_nat _ _ _ hlt
    rw [e, inc (by omega)]
    refine Ev.bind (szAtom (l[i].f0) (l[i].f1) a h0 h1 (hb _ (List.getElem_mem hlt)).1 (hb _ (List.getElem_mem hlt)).2) ?_
    by_cases h : a < nAtom l[i]
    · rw [if_pos (by first | exact h | (simp only [nAtom] at h; omega))]
      refine Ev.pos (by omega) (Ev.const ?_)
      rw [if_pos (by omega)]
    · rw [if_neg (by first | exact h | (simp only [nAtom] at h; omega))]
      refine Ev.neg (by first | omega | (simp only [nAtom] at h; omega)) (Ev.eq (ih (i + 1) _ (by omega) (by first | omega | (simp only [nAtom] at h; omega)) (by omega)) rfl ?_)
      by_cases h2 : a - nAtom l[i] < tsum nAtom (l.drop (i + 1))
      · rw [if_pos (by first | exact h2 | (simp only [nAtom] at h2 ⊢; omega)), if_pos (by omega)]
      · rw [if_neg (by first | exact h2 | (simp only [nAtom] at h2 ⊢; omega)), if_neg (by omega)]; first | omega | (simp only [nAtom]; omega)
theorem szAtomS (l : List S197) (a : Int) (h0 : 0 ≤ a) (h1 : a ≤ 1048576) (hq : qAtomS l) : Ev (fun k => laws_szAtomS.f k l a) (if a < nAtomS l then -1 else a - nAtomS l) := by
  have hl1 := hq.1
  have hw : wrap64 (a - (l.length : Int)) = a - l.length := w64 (by omega) (by omega)
  unfold nAtomS
  by_cases h : a < l.length
  · refine Ev.eq (Ev.const (r := -1) rfl) ?_ (by rw [if_pos (by omega)])
    funext k
    rw [laws_szAtomS.f, hw, if_pos (by omega)]
  · refine Ev.eq (szAtomS_loop l (by omega) hq.2 l.length 0 (a - l.length) (by omega) (by omega) (by omega)) ?_ ?_
    · funext k
      rw [laws_szAtomS.f, hw, if_neg (by omega)]; rfl
    · rw [List.drop_zero]
      by_cases h2 : a - l.length < tsum nAtom l
      · rw [if_pos h2, if_pos (by omega)]
      · rw [if_neg h2, if_neg (by omega)]; omega
theorem toAtom (x0 : Int) (x1 : List Int) (hn : nIntS x1 ≤ 1048576) : Ev (fun k => laws_toAtom.f k x0 x1) (x0, cIntS x1) := by
  unfold laws_toAtom.f
  refine Ev.bind (toIntS x1 (by omega)) ?_
  exact Ev.const rfl
theorem toAtomS_loop (l : List S197) (hn : nAtomS l ≤ 1048576) : ∀ (d i : Nat), i + d = l.length → Ev (fun k => laws_toAtomS.l0 k l (cAtomS (l.take i) ++ List.replicate d z177) (i : Int)) (cAtomS l) := by
  have hlen : l.length ≤ 1048576 := by unfold nAtomS at hn; omega
  intro d
  induction d with
  | zero =>
    intro i hi
    obtain rfl : i = l.length := by omega
    refine Ev.step (fun k => by rw [laws_toAtomS.l0]) (Ev.neg (by omega) (Ev.const ?_))
    simp
  | succ d ih =>
    intro i hi
    have hlt : i < l.length := by omega
    refine Ev.step (fun k => by rw [laws_toAtomS.l0]) (Ev.pos (by omega) (Ev.pos (by omega) ?_))
    have e : rd_T197 l (i : Int) = l[i] := by rw [rd_T197]; exact getD_nat _ _ _ hlt
    rw [e, inc (by omega)]
    have hx : nAtom l[i] ≤ 1048576 := by have := tsum_mem nAtom (List.getElem_mem hlt); unfold nAtomS at hn; omega
    refine Ev.bind (toAtom (l[i].f0) (l[i].f1) hx) (Ev.pos (by simp [cAtomS]; omega) ?_)
    refine Ev.eq (ih (i + 1) (by omega)) ?_ rfl
    funext k
    have e : ((i : Int)).toNat = i := by omega
    have el : (cAtomS (l.take i)).length = i := by simp [cAtomS]; omega
    rw [e, fill_set' _ _ _ _ _ el, take_snoc hlt]
    rw [show cAtomS (l.take i ++ [l[i]]) = cAtomS (l.take i) ++ [cAtom l[i]] from List.map_append ..]
    try rfl
theorem toAtomS (l : List S197) (hn : nAtomS l ≤ 1048576) : Ev (fun k => laws_toAtomS.f k l) (cAtomS l) := by
  have h := toAtomS_loop l hn l.length 0 (by omega)
  have hlen : l.length ≤ 1048576 := by unfold nAtomS at hn; omega
  refine Ev.eq (Ev.pos (c := 0 ≤ (l.length : Int)) (g := fun _ => none) (by omega) (Ev.pos (c := ((l.length : Int) : Int).toNat ≤ 8796093022208) (g := fun _ => none) (by omega) h)) ?_ rfl
  funext k
  rw [laws_toAtomS.f]; simp [cAtomS]
theorem eqAtom (x0 : Int) (x1 : List Int) (mx1_ : x1.length ≤ 4611686018427387000) : Ev (fun k => laws_eqAtom.f k x0 x1 x0 x1) true := by
  unfold laws_eqAtom.f
  first | refine Ev.pos rfl ?_ | skip
  refine Ev.bind (eqIntS x1 mx1_) (Ev.pos rfl ?_)
  exact Ev.const rfl
theorem eqAtomS_loop (l : List S177) (hl : l.length ≤ 4611686018427387000) (hb : ∀ x ∈ l, mAtom x) : ∀ (d i : Nat), i + d = l.length → Ev (fun k => laws_eqAtomS.l0 k l l (i : Int)) true := by
  intro d
  induction d with
  | zero =>
    intro i hi
    exact Ev.step (fun k => by rw [laws_eqAtomS.l0]) (Ev.neg (by omega) (Ev.const rfl))
  | succ d ih =>
    intro i hi
    have hlt : i < l.length := by omega
    refine Ev.step (fun k => by rw [laws_eqAtomS.l0]) (Ev.pos (by omega) (Ev.pos (by omega) (Ev.pos (by omega) ?_)))
    have e : rd_T177 l (i : Int) = l[i] := by rw [rd_T177]; exact getD_nat _ _ _ hlt
    rw [e, inc (by omega)]
    exact Ev.bind (eqAtom (l[i].f0) (l[i].f1) ((hb _ (List.getElem_mem hlt)).2)) (Ev.pos rfl (ih (i + 1) (by omega)))
theorem eqAtomS (l : List S177) (hm : mAtomS l) : Ev (fun k => laws_eqAtomS.f k l l) true :=
  Ev.eq (Ev.pos (c := (l.length : Int) = l.length) (g := fun _ => some false) rfl (eqAtomS_loop l hm.1 hm.2 l.length 0 (by omega))) (by funext k; rw [laws_eqAtomS.f]; rfl) rfl
theorem mcAtom {x : S197} (hn : nAtom x ≤ 1048576) : mAtom (cAtom x) := by
  unfold nAtom at hn
  exact ⟨trivial, mcIntS (l := x.f1) (by omega)⟩
theorem mcAtomS {l : List S197} (hn : nAtomS l ≤ 1048576) : mAtomS (cAtomS l) := by
  unfold nAtomS at hn
  refine ⟨by simp [cAtomS]; omega, fun x hx => ?_⟩
  obtain ⟨y, hy, rfl⟩ := List.mem_map.1 hx
  have := tsum_mem nAtom hy
  exact mcAtom (by omega)
end Go.Proofs.Ythebbgobncbooaa.PLaw

namespace Go.Proofs.Ythebbgobncbooaa.PLaw
open Go.RowKit Go.Proofs.Ythebbgobncbooaa.P Go.Proofs.YthebbgobncbooaaW.PrintWords Go.Proofs.YthebbgobncbooaaW.PrintLast Go.Proofs.Ythebbgobncbooaa.PB
set_option linter.unusedVariables false

def qQuery (x : S89) : Prop := (qIntS x.f0) ∧ (qAtomS x.f1)
def nQuery (x : S89) : Nat := nIntS x.f0 + nAtomS x.f1
def cQuery (x : S89) : S96 := ⟨cIntS x.f0, cAtomS x.f1⟩
def qQueryS (l : List S89) : Prop := l.length ≤ 9223372036854775807 ∧ ∀ x ∈ l, qQuery x
def nQueryS (l : List S89) : Nat := l.length + tsum nQuery l
def cQueryS (l : List S89) : List S96 := l.map cQuery
def mQuery (x : S96) : Prop := (x.f0.length ≤ 4611686018427387000) ∧ (mAtomS x.f1)
def mQueryS (l : List S96) : Prop := l.length ≤ 4611686018427387000 ∧ ∀ x ∈ l, mQuery x
theorem szQuery (x0 : List Int) (x1 : List S197) (a : Int) (h0 : 0 ≤ a) (h1 : a ≤ 1048576) (qx0_ : qIntS x0) (qx1_ : qAtomS x1) : Ev (fun k => laws_szQuery.f k x0 x1 a) (if a < ((nIntS x0 + nAtomS x1 : Nat) : Int) then -1 else a - ((nIntS x0 + nAtomS x1 : Nat) : Int)) := by
  unfold laws_szQuery.f
  have g0 : a ≤ 1048576 := by first | omega | exact h1
  refine Ev.bind (szIntS x0 a (by omega) (by omega) qx0_) ?_
  by_cases c0 : a < ((nIntS x0 : Nat) : Int)
  · rw [if_pos c0]
    exact Ev.pos (by omega) (Ev.const (by first | rfl | rw [if_pos (by omega)]))
  rw [if_neg c0]
  refine Ev.neg (by omega) ?_
  have e0 : a - ((nIntS x0 : Nat) : Int) = (a - ((nIntS x0 : Nat) : Int)) := by omega
  rw [e0]
  have g1 : (a - ((nIntS x0 : Nat) : Int)) ≤ 1048576 := by first | omega | exact h1
  refine Ev.bind (szAtomS x1 (a - ((nIntS x0 : Nat) : Int)) (by omega) (by omega) qx1_) ?_
  by_cases c1 : (a - ((nIntS x0 : Nat) : Int)) < ((nAtomS x1 : Nat) : Int)
  · rw [if_pos c1]
    exact Ev.pos (by omega) (Ev.const (by first | rfl | rw [if_pos (by omega)]))
  rw [if_neg c1]
  refine Ev.neg (by omega) ?_
  have e1 : (a - ((nIntS x0 : Nat) : Int)) - ((nAtomS x1 : Nat) : Int) = (a - ((nIntS x0 + nAtomS x1 : Nat) : Int)) := by omega
  rw [e1]
  exact Ev.const (by first | rfl | rw [if_neg (by omega)])
theorem szQueryS_loop (l : List S89) (hl : l.length ≤ 1048576) (hb : ∀ x ∈ l, qQuery x) : ∀ (d i : Nat) (a : Int), i + d = l.length → 0 ≤ a → a ≤ 1048576 →
    Ev (fun k => laws_szQueryS.l0 k l a (i : Int)) (if a < tsum nQuery (l.drop i) then -1 else a - tsum nQuery (l.drop i)) := by
  intro d
  induction d with
  | zero =>
    intro i a hi h0 h1
    obtain rfl : i = l.length := by omega
    refine Ev.step (fun k => by rw [laws_szQueryS.l0]) (Ev.neg (by omega) (Ev.const ?_))
    simp [tsum]; omega
  | succ d ih =>
    intro i a hi h0 h1
    have hlt : i < l.length := by omega
    rw [drop_cons hlt, tsum_cons]
    refine Ev.step (fun k => by rw [laws_szQueryS.l0]) (Ev.pos (by omega) (Ev.pos (by omega) ?_))
    have e : rd_T89 l (i : Int) = l[i] := by rw [rd_T89]; exact getD_nat _ _ _ hlt
    rw [e, inc (by omega)]
    refine Ev.bind (szQuery (l[i].f0) (l[i].f1) a h0 h1 (hb _ (List.getElem_mem hlt)).1 (hb _ (List.getElem_mem hlt)).2) ?_
    by_cases h : a < nQuery l[i]
    · rw [if_pos (by first | exact h | (simp only [nQuery] at h; omega))]
      refine Ev.pos (by omega) (Ev.const ?_)
      rw [if_pos (by omega)]
    · rw [if_neg (by first | exact h | (simp only [nQuery] at h; omega))]
      refine Ev.neg (by first | omega | (simp only [nQuery] at h; omega)) (Ev.eq (ih (i + 1) _ (by omega) (by first | omega | (simp only [nQuery] at h; omega)) (by omega)) rfl ?_)
      by_cases h2 : a - nQuery l[i] < tsum nQuery (l.drop (i + 1))
      · rw [if_pos (by first | exact h2 | (simp only [nQuery] at h2 ⊢; omega)), if_pos (by omega)]
      · rw [if_neg (by first | exact h2 | (simp only [nQuery] at h2 ⊢; omega)), if_neg (by omega)]; first | omega | (simp only [nQuery]; omega)
theorem szQueryS (l : List S89) (a : Int) (h0 : 0 ≤ a) (h1 : a ≤ 1048576) (hq : qQueryS l) : Ev (fun k => laws_szQueryS.f k l a) (if a < nQueryS l then -1 else a - nQueryS l) := by
  have hl1 := hq.1
  have hw : wrap64 (a - (l.length : Int)) = a - l.length := w64 (by omega) (by omega)
  unfold nQueryS
  by_cases h : a < l.length
  · refine Ev.eq (Ev.const (r := -1) rfl) ?_ (by rw [if_pos (by omega)])
    funext k
    rw [laws_szQueryS.f, hw, if_pos (by omega)]
  · refine Ev.eq (szQueryS_loop l (by omega) hq.2 l.length 0 (a - l.length) (by omega) (by omega) (by omega)) ?_ ?_
    · funext k
      rw [laws_szQueryS.f, hw, if_neg (by omega)]; rfl
    · rw [List.drop_zero]
      by_cases h2 : a - l.length < tsum nQuery l
      · rw [if_pos h2, if_pos (by omega)]
      · rw [if_neg h2, if_neg (by omega)]; omega
theorem toQuery (x0 : List Int) (x1 : List S197) (hn : nIntS x0 + nAtomS x1 ≤ 1048576) : Ev (fun k => laws_toQuery.f k x0 x1) (cIntS x0, cAtomS x1) := by
  unfold laws_toQuery.f
  refine Ev.bind (toIntS x0 (by omega)) ?_
  refine Ev.bind (toAtomS x1 (by omega)) ?_
  exact Ev.const rfl
theorem toQueryS_loop (l : List S89) (hn : nQueryS l ≤ 1048576) : ∀ (d i : Nat), i + d = l.length → Ev (fun k => laws_toQueryS.l0 k l (cQueryS (l.take i) ++ List.replicate d z96) (i : Int)) (cQueryS l) := by
  have hlen : l.length ≤ 1048576 := by unfold nQueryS at hn; omega
  intro d
  induction d with
  | zero =>
    intro i hi
    obtain rfl : i = l.length := by omega
    refine Ev.step (fun k => by rw [laws_toQueryS.l0]) (Ev.neg (by omega) (Ev.const ?_))
    simp
  | succ d ih =>
    intro i hi
    have hlt : i < l.length := by omega
    refine Ev.step (fun k => by rw [laws_toQueryS.l0]) (Ev.pos (by omega) (Ev.pos (by omega) ?_))
    have e : rd_T89 l (i : Int) = l[i] := by rw [rd_T89]; exact getD_nat _ _ _ hlt
    rw [e, inc (by omega)]
    have hx : nQuery l[i] ≤ 1048576 := by have := tsum_mem nQuery (List.getElem_mem hlt); unfold nQueryS at hn; omega
    refine Ev.bind (toQuery (l[i].f0) (l[i].f1) hx) (Ev.pos (by simp [cQueryS]; omega) ?_)
    refine Ev.eq (ih (i + 1) (by omega)) ?_ rfl
    funext k
    have e : ((i : Int)).toNat = i := by omega
    have el : (cQueryS (l.take i)).length = i := by simp [cQueryS]; omega
    rw [e, fill_set' _ _ _ _ _ el, take_snoc hlt]
    rw [show cQueryS (l.take i ++ [l[i]]) = cQueryS (l.take i) ++ [cQuery l[i]] from List.map_append ..]
    try rfl
theorem toQueryS (l : List S89) (hn : nQueryS l ≤ 1048576) : Ev (fun k => laws_toQueryS.f k l) (cQueryS l) := by
  have h := toQueryS_loop l hn l.length 0 (by omega)
  have hlen : l.length ≤ 1048576 := by unfold nQueryS at hn; omega
  refine Ev.eq (Ev.pos (c := 0 ≤ (l.length : Int)) (g := fun _ => none) (by omega) (Ev.pos (c := ((l.length : Int) : Int).toNat ≤ 5864062014805) (g := fun _ => none) (by omega) h)) ?_ rfl
  funext k
  rw [laws_toQueryS.f]; simp [cQueryS]
theorem eqQuery (x0 : List Int) (x1 : List S177) (mx0_ : x0.length ≤ 4611686018427387000) (mx1_ : mAtomS x1) : Ev (fun k => laws_eqQuery.f k x0 x1 x0 x1) true := by
  unfold laws_eqQuery.f
  refine Ev.bind (eqIntS x0 mx0_) (Ev.pos rfl ?_)
  refine Ev.bind (eqAtomS x1 mx1_) (Ev.pos rfl ?_)
  exact Ev.const rfl
theorem eqQueryS_loop (l : List S96) (hl : l.length ≤ 4611686018427387000) (hb : ∀ x ∈ l, mQuery x) : ∀ (d i : Nat), i + d = l.length → Ev (fun k => laws_eqQueryS.l0 k l l (i : Int)) true := by
  intro d
  induction d with
  | zero =>
    intro i hi
    exact Ev.step (fun k => by rw [laws_eqQueryS.l0]) (Ev.neg (by omega) (Ev.const rfl))
  | succ d ih =>
    intro i hi
    have hlt : i < l.length := by omega
    refine Ev.step (fun k => by rw [laws_eqQueryS.l0]) (Ev.pos (by omega) (Ev.pos (by omega) (Ev.pos (by omega) ?_)))
    have e : rd_T96 l (i : Int) = l[i] := by rw [rd_T96]; exact getD_nat _ _ _ hlt
    rw [e, inc (by omega)]
    exact Ev.bind (eqQuery (l[i].f0) (l[i].f1) ((hb _ (List.getElem_mem hlt)).1) ((hb _ (List.getElem_mem hlt)).2)) (Ev.pos rfl (ih (i + 1) (by omega)))
theorem eqQueryS (l : List S96) (hm : mQueryS l) : Ev (fun k => laws_eqQueryS.f k l l) true :=
  Ev.eq (Ev.pos (c := (l.length : Int) = l.length) (g := fun _ => some false) rfl (eqQueryS_loop l hm.1 hm.2 l.length 0 (by omega))) (by funext k; rw [laws_eqQueryS.f]; rfl) rfl
theorem mcQuery {x : S89} (hn : nQuery x ≤ 1048576) : mQuery (cQuery x) := by
  unfold nQuery at hn
  exact ⟨mcIntS (l := x.f0) (by omega), mcAtomS (l := x.f1) (by omega)⟩
theorem mcQueryS {l : List S89} (hn : nQueryS l ≤ 1048576) : mQueryS (cQueryS l) := by
  unfold nQueryS at hn
  refine ⟨by simp [cQueryS]; omega, fun x hx => ?_⟩
  obtain ⟨y, hy, rfl⟩ := List.mem_map.1 hx
  have := tsum_mem nQuery hy
  exact mcQuery (by omega)
end Go.Proofs.Ythebbgobncbooaa.PLaw

namespace Go.Proofs.Ythebbgobncbooaa.POkq
open Go.RowKit Go.Proofs.Ythebbgobncbooaa.P Go.Proofs.YthebbgobncbooaaW.PrintWords Go.Proofs.YthebbgobncbooaaW.PrintLast Go.Proofs.Ythebbgobncbooaa.PB Go.Proofs.Ythebbgobncbooaa.PQuery Go.Proofs.Ythebbgobncbooaa.PLaw
/-- A query of bounded size. -/
def okQ (q : S96) : Prop := q.f0.length ≤ 1048576 ∧ q.f1.length ≤ 1048576 ∧ (∀ a ∈ q.f1, a.f1.length ≤ 1048576) ∧ asum q.f1 ≤ 1099511627776
theorem asum_map (l : List S197) : asum (cAtomS l) = tsum nAtom l := by
  induction l with
  | nil => rfl
  | cons a r ih =>
    show (cAtom a).f1.length + asum (cAtomS r) = nAtom a + tsum nAtom r
    rw [ih]; rfl
theorem okQ_of {q : S89} (h : nQuery q ≤ 1048576) : okQ (cQuery q) := by
  unfold nQuery nAtomS at h
  refine ⟨?_, ?_, ?_, ?_⟩
  · show q.f0.length ≤ _; unfold nIntS at h; omega
  · show (cAtomS q.f1).length ≤ _; unfold cAtomS; simp; omega
  · intro a ha
    obtain ⟨y, hy, rfl⟩ := List.mem_map.1 ha
    have h1 : y.f1.length ≤ tsum nAtom q.f1 := tsum_mem nAtom hy
    show y.f1.length ≤ _; omega
  · show asum (cAtomS q.f1) ≤ _; rw [asum_map]; omega
end Go.Proofs.Ythebbgobncbooaa.POkq

namespace Go.Proofs.Ythebbgobncbooaa.PCache
open Go.RowKit Go.Proofs.Ythebbgobncbooaa.P Go.Proofs.YthebbgobncbooaaW.PrintWords Go.Proofs.YthebbgobncbooaaW.PrintLast Go.Proofs.Ythebbgobncbooaa.PB Go.Proofs.Ythebbgobncbooaa.PIn Go.Proofs.Ythebbgobncbooaa.PSchema Go.Proofs.Ythebbgobncbooaa.PQuery Go.Proofs.Ythebbgobncbooaa.PLess Go.Proofs.Ythebbgobncbooaa.PVals Go.Proofs.Ythebbgobncbooaa.POkq
set_option linter.unusedVariables false
set_option linter.unusedSimpArgs false
def views (s : List Int) (l : List S96) : Bool := l.all fun v => isQuery s v.f0 v.f1 && !(decide (v.f0.length = 0))
def areViews (s : List Int) (l : List S96) : Bool := views s l && (isSchema s && inr l.length 1 4)
theorem rdV (l : List S96) (i : Nat) (h : i < l.length) : rd_T96 l (i : Int) = l[i] := by rw [rd_T96]; exact getD_nat _ _ _ h
theorem spec_views (s : List Int) (l : List S96) (hs : s.length ≤ 1048576) (hl : l.length ≤ 1048576) (ha : ∀ v ∈ l, okQ v) : Ev (fun k => spec_AreViews.f k s l) (areViews s l) := by
  have loop : ∀ (d i : Nat), i + d = l.length → Ev (fun k => spec_AreViews.l0 k l (i : Int) s) (views s (l.drop i) && (isSchema s && inr l.length 1 4)) := by
    intro d
    induction d with
    | zero =>
      intro i hi
      rw [List.drop_of_length_le (by omega)]
      refine Ev.step (fun k => by rw [spec_AreViews.l0]) (Ev.neg (by omega) (Ev.bind (spec_schema s hs) ?_))
      cases isSchema s with
      | false => exact Ev.neg (by simp) (Ev.const rfl)
      | true => exact Ev.pos rfl (Ev.bindc (spec_in _ _ _) (Ev.const (by simp [views])))
    | succ d ih =>
      intro i hi
      have hlt : i < l.length := by omega
      obtain ⟨h1, h2, h3, h4⟩ := ha _ (List.getElem_mem hlt)
      refine Ev.step (fun k => by rw [spec_AreViews.l0]) (Ev.pos (by omega) (Ev.pos (by omega) ?_))
      rw [rdV _ _ hlt, inc (by omega), drop_cons hlt, views, all_cons]
      refine Ev.bind (spec_isQuery s _ _ hs h1 h2 h3 h4) ?_
      cases h : isQuery s (l[i]).f0 (l[i]).f1 with
      | false => exact Ev.neg (by simp) (Ev.const rfl)
      | true =>
        refine Ev.pos rfl ?_
        by_cases h5 : (l[i]).f0.length = 0
        · refine Ev.pos (by omega) (Ev.const ?_)
          rw [decide_eq_true h5]; rfl
        · refine Ev.neg (by omega) (Ev.eq (ih (i + 1) (by omega)) rfl ?_)
          rw [decide_eq_false h5]; simp only [Bool.true_and, Bool.not_false]; rfl
  exact Ev.eq (loop l.length 0 (by omega)) (by funext k; rw [spec_AreViews.f]; rfl) (by simp [areViews])
theorem impl_views (s : List Int) (l : List S96) (hs : s.length ≤ 1048576) (hl : l.length ≤ 1048576) (ha : ∀ v ∈ l, okQ v) : Ev (fun k => impl_AreViews.f k s l) (areViews s l) := by
  have loop : ∀ (d i : Nat), i + d = l.length → Ev (fun k => impl_AreViews.l0 k l l (l.length : Int) (i : Int) s) (views s (l.drop i) && (isSchema s && inr l.length 1 4)) := by
    intro d
    induction d with
    | zero =>
      intro i hi
      rw [List.drop_of_length_le (by omega)]
      refine Ev.step (fun k => by rw [impl_AreViews.l0]) (Ev.neg (by omega) (Ev.bind (impl_schema s hs) ?_))
      cases isSchema s with
      | false => exact Ev.neg (by simp) (Ev.const rfl)
      | true => exact Ev.pos rfl (Ev.bindc (impl_in _ _ _) (Ev.const (by simp [views])))
    | succ d ih =>
      intro i hi
      have hlt : i < l.length := by omega
      obtain ⟨h1, h2, h3, h4⟩ := ha _ (List.getElem_mem hlt)
      refine Ev.step (fun k => by rw [impl_AreViews.l0]) (Ev.pos (by omega) (Ev.pos (by omega) (Ev.pos (by omega) ?_)))
      rw [rdV _ _ hlt, inc (by omega), drop_cons hlt, views, all_cons]
      refine Ev.bind (impl_isQuery s _ _ hs h1 h2 h3) ?_
      cases h : isQuery s (l[i]).f0 (l[i]).f1 with
      | false => exact Ev.neg (by simp) (Ev.const rfl)
      | true =>
        refine Ev.pos rfl ?_
        by_cases h5 : (l[i]).f0.length = 0
        · refine Ev.pos (by omega) (Ev.const ?_)
          rw [decide_eq_true h5]; rfl
        · refine Ev.neg (by omega) (Ev.eq (ih (i + 1) (by omega)) rfl ?_)
          rw [decide_eq_false h5]; simp only [Bool.true_and, Bool.not_false]; rfl
  exact Ev.eq (loop l.length 0 (by omega)) (by funext k; rw [impl_AreViews.f]; rfl) (by simp [areViews])
theorem rdR (l : List (List Int)) (i : Nat) (h : i < l.length) : rd_L1 l (i : Int) = l[i] := by rw [rd_L1]; exact getD_nat _ _ _ h
theorem rdTb (l : List (List (List Int))) (i : Nat) (h : i < l.length) : rd_L9 l (i : Int) = l[i] := by rw [rd_L9]; exact getD_nat _ _ _ h
def rowOk (hd : Nat) (t : List (List Int)) (j : Nat) : Bool :=
  decide ((t.getD j []).length = hd) && (vals (t.getD j []) && (j == 0 || decide (cmpL (t.getD (j - 1) []) (t.getD j []) < 0)))
def rowsFrom (hd : Nat) (t : List (List Int)) : Nat → Nat → Bool
  | _, 0 => true
  | j, d + 1 => rowOk hd t j && rowsFrom hd t (j + 1) d
def tabOk (hd : Nat) (t : List (List Int)) : Bool := decide (t.length ≤ 90) && rowsFrom hd t 0 t.length
def tabs (v : List S96) (t : List (List (List Int))) : Nat → Nat → Bool
  | _, 0 => true
  | i, d + 1 => tabOk (rd_T96 v i).f0.length (t.getD i []) && tabs v t (i + 1) d
def isCache (s : List Int) (v : List S96) (t : List (List (List Int))) (n : Int) : Bool :=
  areViews s v && (decide (t.length = v.length) && (inr n 0 1000 && tabs v t 0 t.length))
theorem getD_in {α : Type} (d : α) (l : List α) (i : Nat) (h : i < l.length) : l.getD i d = l[i] := by simp [List.getD_eq_getElem?_getD, h]
/-- Bounded tables. -/
def okT (t : List (List (List Int))) : Prop := t.length ≤ 1048576 ∧ ∀ x ∈ t, x.length ≤ 1048576 ∧ ∀ r ∈ x, r.length ≤ 1048576
theorem impl_cache (s : List Int) (v : List S96) (t : List (List (List Int))) (n : Int) (hs : s.length ≤ 1048576) (hl : v.length ≤ 1048576) (ha : ∀ q ∈ v, okQ q) (ht : okT t) :
    Ev (fun k => impl_IsCache.f k s v t n) (isCache s v t n) := by
  have inner : ∀ (hvt : t.length = v.length) (i : Nat) (hi : i < t.length) (r : Bool), Ev (fun k => impl_IsCache.l0 k t (t.length : Int) ((i + 1 : Nat) : Int) v t n) r →
      ∀ (d j : Nat), j + d = (t[i]).length → Ev (fun k => impl_IsCache.l1 k (i : Int) t[i] t (t.length : Int) (i : Int) t[i] ((t[i]).length : Int) (j : Int) v t n) (if rowsFrom (rd_T96 v i).f0.length t[i] j d = true then r else false) := by
    intro hvt i hi r hn d
    obtain ⟨hx, hr⟩ := ht.2 _ (List.getElem_mem hi)
    have h0 := ht.1
    induction d with
    | zero =>
      intro j hj
      refine Ev.step (fun k => by rw [impl_IsCache.l1]) (Ev.neg (by omega) ?_)
      rw [inc (by omega)]; simpa [rowsFrom] using hn
    | succ d ih =>
      intro j hj
      have hlt : j < (t[i]).length := by omega
      have hrj := hr _ (List.getElem_mem hlt)
      refine Ev.step (fun k => by rw [impl_IsCache.l1]) (Ev.pos (by omega) (Ev.pos (by omega) (Ev.pos (by omega) (Ev.pos (by omega) (Ev.pos (by omega) ?_)))))
      rw [rdR _ _ hlt, inc (by omega), rowsFrom, rowOk, getD_in _ _ _ hlt]
      by_cases h1 : ((t[i])[j]).length = (rd_T96 v i).f0.length
      · refine Ev.pos (by omega) (Ev.bind (values_ev _ (by omega)) ?_)
        rw [decide_eq_true h1]
        cases h2 : vals (t[i])[j] with
        | false => exact Ev.neg (by simp) (Ev.const (by simp))
        | true =>
          refine Ev.pos rfl ?_
          by_cases h3 : j = 0
          · subst h3
            exact Ev.neg (by omega) (Ev.eq (ih (0 + 1) (by omega)) rfl (by simp))
          · have hp : j - 1 < (t[i]).length := by omega
            have e : wrap64 ((j : Int) - 1) = ((j - 1 : Nat) : Int) := by rw [w64 (by omega) (by omega)]; omega
            have hrp := hr _ (List.getElem_mem hp)
            rw [e]
            refine Ev.pos (by omega) (Ev.pos (by omega) (Ev.pos (by omega) ?_))
            rw [rdR _ _ hp, getD_in _ _ _ hp]
            refine Ev.bind (compare_ev _ _ hrp hrj) ?_
            have e0 : (j == 0) = false := by simpa using h3
            rw [e0]
            by_cases h4 : cmpL (t[i])[j - 1] (t[i])[j] < 0
            · refine Ev.neg (by omega) (Ev.eq (ih (j + 1) (by omega)) rfl ?_)
              rw [decide_eq_true h4]; simp only [Bool.true_and, Bool.or_true, Bool.false_or]
            · refine Ev.pos (by omega) (Ev.const ?_)
              rw [decide_eq_false h4]; simp
      · refine Ev.neg (by omega) (Ev.const ?_)
        rw [decide_eq_false h1]; simp
  have outer : ∀ (hvt : t.length = v.length) (d i : Nat), i + d = t.length → Ev (fun k => impl_IsCache.l0 k t (t.length : Int) (i : Int) v t n) (tabs v t i d) := by
    intro hvt d
    have h0 := ht.1
    induction d with
    | zero =>
      intro i hi
      show Ev _ true
      exact Ev.step (fun k => by rw [impl_IsCache.l0]) (Ev.neg (by omega) (Ev.const rfl))
    | succ d ih =>
      intro i hi
      have hlt : i < t.length := by omega
      refine Ev.step (fun k => by rw [impl_IsCache.l0]) (Ev.pos (by omega) (Ev.pos (by omega) (Ev.pos (by omega) ?_)))
      rw [rdTb _ _ hlt, tabs, getD_in _ _ _ hlt, tabOk]
      by_cases h1 : (t[i]).length ≤ 90
      · rw [decide_eq_true h1]
        refine Ev.neg (by omega) (Ev.eq (inner hvt i hlt _ (ih (i + 1) (by omega)) (t[i]).length 0 (by omega)) rfl ?_)
        cases rowsFrom (rd_T96 v i).f0.length t[i] 0 (t[i]).length <;> simp
      · rw [decide_eq_false h1]
        exact Ev.pos (by omega) (Ev.const (by simp))
  have out : Ev (fun k => impl_IsCache.j0 k true v t n) false := Ev.step (fun k => by rw [impl_IsCache.j0]) (Ev.pos rfl (Ev.const rfl))
  unfold impl_IsCache.f isCache
  refine Ev.bind (impl_views s v hs hl ha) ?_
  cases areViews s v with
  | false => exact Ev.neg (by simp) out
  | true =>
    refine Ev.pos rfl ?_
    by_cases h : t.length = v.length
    · rw [decide_eq_true h]
      refine Ev.pos (by omega) (Ev.bindc (impl_in _ _ _) ?_)
      cases inr n 0 1000 with
      | false => exact out
      | true =>
        have o0 : Ev (fun k => impl_IsCache.l0 k t (t.length : Int) 0 v t n) (tabs v t 0 t.length) := outer h t.length 0 (by omega)
        exact Ev.eq (Ev.step (fun k => by rw [impl_IsCache.j0]) (Ev.neg (by simp) o0)) rfl (by simp)
    · rw [decide_eq_false h]
      exact Ev.neg (by omega) (Ev.eq out rfl (by simp))
theorem spec_cache (s : List Int) (v : List S96) (t : List (List (List Int))) (n : Int) (hs : s.length ≤ 1048576) (hl : v.length ≤ 1048576) (ha : ∀ q ∈ v, okQ q) (ht : okT t) :
    Ev (fun k => spec_IsCache.f k s v t n) (isCache s v t n) := by
  have cells : ∀ (i : Nat) (hi : i < t.length) (j : Nat) (hj : j < (t[i]).length) (r : Bool), Ev (fun k => spec_IsCache.l1 k (i : Int) t[i] ((j + 1 : Nat) : Int) v t n) r →
      ∀ (d m : Nat), m + d = ((t[i])[j]).length → Ev (fun k => spec_IsCache.l2 k (i : Int) t[i] (j : Int) (m : Int) v t n) (if vals (((t[i])[j]).drop m) = true then r else false) := by
    intro i hi j hj r hn d
    obtain ⟨hx, hr⟩ := ht.2 _ (List.getElem_mem hi)
    have hrj := hr _ (List.getElem_mem hj)
    induction d with
    | zero =>
      intro m hm
      rw [List.drop_of_length_le (by omega)]
      refine Ev.step (fun k => by rw [spec_IsCache.l2]) (Ev.pos (by omega) (Ev.pos (by omega) ?_))
      rw [rdR _ _ hj, inc (i := j) (by omega)]
      exact Ev.neg (by omega) (Ev.eq hn rfl (by simp [vals]))
    | succ d ih =>
      intro m hm
      have hlt : m < ((t[i])[j]).length := by omega
      refine Ev.step (fun k => by rw [spec_IsCache.l2]) (Ev.pos (by omega) (Ev.pos (by omega) ?_))
      rw [rdR _ _ hj]
      refine Ev.pos (by omega) (Ev.pos (by omega) ?_)
      rw [rd_nat _ _ hlt, inc (by omega), drop_cons hlt, vals, all_cons]
      refine Ev.bindc (spec_in _ _ _) ?_
      cases h : inr ((t[i])[j])[m] 0 99 with
      | true => exact Ev.pos rfl (Ev.eq (ih (m + 1) (by omega)) rfl (by simp only [Bool.true_and]; rfl))
      | false => exact Ev.neg (by simp) (Ev.const (by simp))
  have inner : ∀ (hvt : t.length = v.length) (i : Nat) (hi : i < t.length) (r : Bool), Ev (fun k => spec_IsCache.l0 k ((i + 1 : Nat) : Int) v t n) r →
      ∀ (d j : Nat), j + d = (t[i]).length → Ev (fun k => spec_IsCache.l1 k (i : Int) t[i] (j : Int) v t n) (if rowsFrom (rd_T96 v i).f0.length t[i] j d = true then (decide ((t[i]).length ≤ 90) && r) else false) := by
    intro hvt i hi r hn d
    obtain ⟨hx, hr⟩ := ht.2 _ (List.getElem_mem hi)
    have h0 := ht.1
    induction d with
    | zero =>
      intro j hj
      refine Ev.step (fun k => by rw [spec_IsCache.l1]) (Ev.neg (by omega) ?_)
      rw [inc (by omega), rowsFrom]
      by_cases h1 : (t[i]).length ≤ 90
      · rw [decide_eq_true h1]; exact Ev.neg (by omega) (Ev.eq hn rfl (by simp))
      · rw [decide_eq_false h1]; exact Ev.pos (by omega) (Ev.const (by simp))
    | succ d ih =>
      intro j hj
      have hlt : j < (t[i]).length := by omega
      have hrj := hr _ (List.getElem_mem hlt)
      have out : Ev (fun k => spec_IsCache.j3 k (i : Int) t[i] (j : Int) true v t n) false := Ev.step (fun k => by rw [spec_IsCache.j3]) (Ev.pos rfl (Ev.const rfl))
      have go : Ev (fun k => spec_IsCache.j3 k (i : Int) t[i] (j : Int) false v t n) (if vals (t[i])[j] = true then (if rowsFrom (rd_T96 v i).f0.length t[i] (j + 1) d = true then (decide ((t[i]).length ≤ 90) && r) else false) else false) := by
        refine Ev.step (fun k => by rw [spec_IsCache.j3]) (Ev.neg (by simp) ?_)
        exact Ev.eq (cells i hi j hlt _ (ih (j + 1) (by omega)) ((t[i])[j]).length 0 (by omega)) rfl (by simp)
      refine Ev.step (fun k => by rw [spec_IsCache.l1]) (Ev.pos (by omega) (Ev.pos (by omega) (Ev.pos (by omega) (Ev.pos (by omega) ?_))))
      rw [rdR _ _ hlt, rowsFrom, rowOk, getD_in _ _ _ hlt]
      by_cases h1 : ((t[i])[j]).length = (rd_T96 v i).f0.length
      · rw [decide_eq_true h1]
        refine Ev.pos (by omega) ?_
        by_cases h3 : j = 0
        · subst h3
          refine Ev.neg (by omega) (Ev.eq go rfl ?_)
          cases vals (t[i])[0] <;> simp
        · have hp : j - 1 < (t[i]).length := by omega
          have e : wrap64 ((j : Int) - 1) = ((j - 1 : Nat) : Int) := by rw [w64 (by omega) (by omega)]; omega
          have hrp := hr _ (List.getElem_mem hp)
          rw [e]
          refine Ev.pos (by omega) (Ev.pos (by omega) (Ev.pos (by omega) ?_))
          rw [rdR _ _ hp, getD_in _ _ _ hp]
          refine Ev.bind (less_ev _ _ hrp hrj) ?_
          have e0 : (j == 0) = false := by simpa using h3
          rw [e0]
          by_cases h4 : cmpL (t[i])[j - 1] (t[i])[j] < 0
          · rw [decide_eq_true h4]
            refine Ev.eq go rfl ?_
            cases vals (t[i])[j] <;> simp
          · rw [decide_eq_false h4]
            refine Ev.eq out rfl ?_
            simp
      · refine Ev.neg (by omega) (Ev.eq out rfl ?_)
        rw [decide_eq_false h1]; simp
  have outer : ∀ (hvt : t.length = v.length) (d i : Nat), i + d = t.length → Ev (fun k => spec_IsCache.l0 k (i : Int) v t n) (tabs v t i d) := by
    intro hvt d
    have h0 := ht.1
    induction d with
    | zero =>
      intro i hi
      show Ev _ true
      exact Ev.step (fun k => by rw [spec_IsCache.l0]) (Ev.neg (by omega) (Ev.const rfl))
    | succ d ih =>
      intro i hi
      have hlt : i < t.length := by omega
      refine Ev.step (fun k => by rw [spec_IsCache.l0]) (Ev.pos (by omega) (Ev.pos (by omega) ?_))
      rw [rdTb _ _ hlt, tabs, getD_in _ _ _ hlt, tabOk]
      refine Ev.eq (inner hvt i hlt _ (ih (i + 1) (by omega)) (t[i]).length 0 (by omega)) rfl ?_
      cases rowsFrom (rd_T96 v i).f0.length t[i] 0 (t[i]).length <;> simp
  have out : Ev (fun k => spec_IsCache.j0 k true v t n) false := Ev.step (fun k => by rw [spec_IsCache.j0]) (Ev.pos rfl (Ev.const rfl))
  unfold spec_IsCache.f isCache
  refine Ev.bind (spec_views s v hs hl ha) ?_
  cases areViews s v with
  | false => exact Ev.neg (by simp) out
  | true =>
    refine Ev.pos rfl ?_
    by_cases h : t.length = v.length
    · rw [decide_eq_true h]
      refine Ev.pos (by omega) (Ev.bindc (spec_in _ _ _) ?_)
      cases inr n 0 1000 with
      | false => exact out
      | true =>
        have o0 : Ev (fun k => spec_IsCache.l0 k 0 v t n) (tabs v t 0 t.length) := outer h t.length 0 (by omega)
        exact Ev.eq (Ev.step (fun k => by rw [spec_IsCache.j0]) (Ev.neg (by simp) o0)) rfl (by simp)
    · rw [decide_eq_false h]
      exact Ev.neg (by omega) (Ev.eq out rfl (by simp))
end Go.Proofs.Ythebbgobncbooaa.PCache

namespace Go.Proofs.Ythebbgobncbooaa.PLaw
open Go.RowKit Go.Proofs.Ythebbgobncbooaa.P Go.Proofs.YthebbgobncbooaaW.PrintWords Go.Proofs.YthebbgobncbooaaW.PrintLast Go.Proofs.Ythebbgobncbooaa.PB
set_option linter.unusedVariables false

def qIntSS (l : List (List Int)) : Prop := l.length ≤ 9223372036854775807 ∧ ∀ x ∈ l, qIntS x
def nIntSS (l : List (List Int)) : Nat := l.length + tsum nIntS l
def cIntSS (l : List (List Int)) : List (List Int) := l.map cIntS
def mIntSS (l : List (List Int)) : Prop := l.length ≤ 4611686018427387000 ∧ ∀ x ∈ l, x.length ≤ 4611686018427387000
theorem szIntSS_loop (l : List (List Int)) (hl : l.length ≤ 1048576) (hb : ∀ x ∈ l, qIntS x) : ∀ (d i : Nat) (a : Int), i + d = l.length → 0 ≤ a → a ≤ 1048576 →
    Ev (fun k => laws_szIntSS.l0 k l a (i : Int)) (if a < tsum nIntS (l.drop i) then -1 else a - tsum nIntS (l.drop i)) := by
  intro d
  induction d with
  | zero =>
    intro i a hi h0 h1
    obtain rfl : i = l.length := by omega
    refine Ev.step (fun k => by rw [laws_szIntSS.l0]) (Ev.neg (by omega) (Ev.const ?_))
    simp [tsum]; omega
  | succ d ih =>
    intro i a hi h0 h1
    have hlt : i < l.length := by omega
    rw [drop_cons hlt, tsum_cons]
    refine Ev.step (fun k => by rw [laws_szIntSS.l0]) (Ev.pos (by omega) (Ev.pos (by omega) ?_))
    have e : rd_L1 l (i : Int) = l[i] := by rw [rd_L1]; exact getD_nat _ _ _ hlt
    rw [e, inc (by omega)]
    refine Ev.bind (szIntS l[i] a h0 h1 (hb _ (List.getElem_mem hlt))) ?_
    by_cases h : a < nIntS l[i]
    · rw [if_pos (by first | exact h | (simp only [nIntS] at h; omega))]
      refine Ev.pos (by omega) (Ev.const ?_)
      rw [if_pos (by omega)]
    · rw [if_neg (by first | exact h | (simp only [nIntS] at h; omega))]
      refine Ev.neg (by first | omega | (simp only [nIntS] at h; omega)) (Ev.eq (ih (i + 1) _ (by omega) (by first | omega | (simp only [nIntS] at h; omega)) (by omega)) rfl ?_)
      by_cases h2 : a - nIntS l[i] < tsum nIntS (l.drop (i + 1))
      · rw [if_pos (by first | exact h2 | (simp only [nIntS] at h2 ⊢; omega)), if_pos (by omega)]
      · rw [if_neg (by first | exact h2 | (simp only [nIntS] at h2 ⊢; omega)), if_neg (by omega)]; first | omega | (simp only [nIntS]; omega)
theorem szIntSS (l : List (List Int)) (a : Int) (h0 : 0 ≤ a) (h1 : a ≤ 1048576) (hq : qIntSS l) : Ev (fun k => laws_szIntSS.f k l a) (if a < nIntSS l then -1 else a - nIntSS l) := by
  have hl1 := hq.1
  have hw : wrap64 (a - (l.length : Int)) = a - l.length := w64 (by omega) (by omega)
  unfold nIntSS
  by_cases h : a < l.length
  · refine Ev.eq (Ev.const (r := -1) rfl) ?_ (by rw [if_pos (by omega)])
    funext k
    rw [laws_szIntSS.f, hw, if_pos (by omega)]
  · refine Ev.eq (szIntSS_loop l (by omega) hq.2 l.length 0 (a - l.length) (by omega) (by omega) (by omega)) ?_ ?_
    · funext k
      rw [laws_szIntSS.f, hw, if_neg (by omega)]; rfl
    · rw [List.drop_zero]
      by_cases h2 : a - l.length < tsum nIntS l
      · rw [if_pos h2, if_pos (by omega)]
      · rw [if_neg h2, if_neg (by omega)]; omega
theorem toIntSS_loop (l : List (List Int)) (hn : nIntSS l ≤ 1048576) : ∀ (d i : Nat), i + d = l.length → Ev (fun k => laws_toIntSS.l0 k l (cIntSS (l.take i) ++ List.replicate d []) (i : Int)) (cIntSS l) := by
  have hlen : l.length ≤ 1048576 := by unfold nIntSS at hn; omega
  intro d
  induction d with
  | zero =>
    intro i hi
    obtain rfl : i = l.length := by omega
    refine Ev.step (fun k => by rw [laws_toIntSS.l0]) (Ev.neg (by omega) (Ev.const ?_))
    simp
  | succ d ih =>
    intro i hi
    have hlt : i < l.length := by omega
    refine Ev.step (fun k => by rw [laws_toIntSS.l0]) (Ev.pos (by omega) (Ev.pos (by omega) ?_))
    have e : rd_L1 l (i : Int) = l[i] := by rw [rd_L1]; exact getD_nat _ _ _ hlt
    rw [e, inc (by omega)]
    have hx : nIntS l[i] ≤ 1048576 := by have := tsum_mem nIntS (List.getElem_mem hlt); unfold nIntSS at hn; omega
    refine Ev.bind (toIntS l[i] hx) (Ev.pos (by simp [cIntSS]; omega) ?_)
    refine Ev.eq (ih (i + 1) (by omega)) ?_ rfl
    funext k
    have e : ((i : Int)).toNat = i := by omega
    have el : (cIntSS (l.take i)).length = i := by simp [cIntSS]; omega
    rw [e, fill_set' _ _ _ _ _ el, take_snoc hlt]
    rw [show cIntSS (l.take i ++ [l[i]]) = cIntSS (l.take i) ++ [cIntS l[i]] from List.map_append ..]
    try rfl
theorem toIntSS (l : List (List Int)) (hn : nIntSS l ≤ 1048576) : Ev (fun k => laws_toIntSS.f k l) (cIntSS l) := by
  have h := toIntSS_loop l hn l.length 0 (by omega)
  have hlen : l.length ≤ 1048576 := by unfold nIntSS at hn; omega
  refine Ev.eq (Ev.pos (c := 0 ≤ (l.length : Int)) (g := fun _ => none) (by omega) (Ev.pos (c := ((l.length : Int) : Int).toNat ≤ 11728124029610) (g := fun _ => none) (by omega) h)) ?_ rfl
  funext k
  rw [laws_toIntSS.f]; simp [cIntSS]
theorem eqIntSS_loop (l : List (List Int)) (hl : l.length ≤ 4611686018427387000) (hb : ∀ x ∈ l, x.length ≤ 4611686018427387000) : ∀ (d i : Nat), i + d = l.length → Ev (fun k => laws_eqIntSS.l0 k l l (i : Int)) true := by
  intro d
  induction d with
  | zero =>
    intro i hi
    exact Ev.step (fun k => by rw [laws_eqIntSS.l0]) (Ev.neg (by omega) (Ev.const rfl))
  | succ d ih =>
    intro i hi
    have hlt : i < l.length := by omega
    refine Ev.step (fun k => by rw [laws_eqIntSS.l0]) (Ev.pos (by omega) (Ev.pos (by omega) (Ev.pos (by omega) ?_)))
    have e : rd_L1 l (i : Int) = l[i] := by rw [rd_L1]; exact getD_nat _ _ _ hlt
    rw [e, inc (by omega)]
    exact Ev.bind (eqIntS l[i] (hb _ (List.getElem_mem hlt))) (Ev.pos rfl (ih (i + 1) (by omega)))
theorem eqIntSS (l : List (List Int)) (hm : mIntSS l) : Ev (fun k => laws_eqIntSS.f k l l) true :=
  Ev.eq (Ev.pos (c := (l.length : Int) = l.length) (g := fun _ => some false) rfl (eqIntSS_loop l hm.1 hm.2 l.length 0 (by omega))) (by funext k; rw [laws_eqIntSS.f]; rfl) rfl
theorem mcIntSS {l : List (List Int)} (hn : nIntSS l ≤ 1048576) : mIntSS (cIntSS l) := by
  unfold nIntSS at hn
  refine ⟨by simp [cIntSS]; omega, fun x hx => ?_⟩
  obtain ⟨y, hy, rfl⟩ := List.mem_map.1 hx
  have := tsum_mem nIntS hy
  exact mcIntS (by omega)
end Go.Proofs.Ythebbgobncbooaa.PLaw

namespace Go.Proofs.Ythebbgobncbooaa.PLaw
open Go.RowKit Go.Proofs.Ythebbgobncbooaa.P Go.Proofs.YthebbgobncbooaaW.PrintWords Go.Proofs.YthebbgobncbooaaW.PrintLast Go.Proofs.Ythebbgobncbooaa.PB
set_option linter.unusedVariables false

def qIntSSS (l : List (List (List Int))) : Prop := l.length ≤ 9223372036854775807 ∧ ∀ x ∈ l, qIntSS x
def nIntSSS (l : List (List (List Int))) : Nat := l.length + tsum nIntSS l
def cIntSSS (l : List (List (List Int))) : List (List (List Int)) := l.map cIntSS
def mIntSSS (l : List (List (List Int))) : Prop := l.length ≤ 4611686018427387000 ∧ ∀ x ∈ l, mIntSS x
theorem szIntSSS_loop (l : List (List (List Int))) (hl : l.length ≤ 1048576) (hb : ∀ x ∈ l, qIntSS x) : ∀ (d i : Nat) (a : Int), i + d = l.length → 0 ≤ a → a ≤ 1048576 →
    Ev (fun k => laws_szIntSSS.l0 k l a (i : Int)) (if a < tsum nIntSS (l.drop i) then -1 else a - tsum nIntSS (l.drop i)) := by
  intro d
  induction d with
  | zero =>
    intro i a hi h0 h1
    obtain rfl : i = l.length := by omega
    refine Ev.step (fun k => by rw [laws_szIntSSS.l0]) (Ev.neg (by omega) (Ev.const ?_))
    simp [tsum]; omega
  | succ d ih =>
    intro i a hi h0 h1
    have hlt : i < l.length := by omega
    rw [drop_cons hlt, tsum_cons]
    refine Ev.step (fun k => by rw [laws_szIntSSS.l0]) (Ev.pos (by omega) (Ev.pos (by omega) ?_))
    have e : rd_L9 l (i : Int) = l[i] := by rw [rd_L9]; exact getD_nat _ _ _ hlt
    rw [e, inc (by omega)]
    refine Ev.bind (szIntSS l[i] a h0 h1 (hb _ (List.getElem_mem hlt))) ?_
    by_cases h : a < nIntSS l[i]
    · rw [if_pos (by first | exact h | (simp only [nIntSS] at h; omega))]
      refine Ev.pos (by omega) (Ev.const ?_)
      rw [if_pos (by omega)]
    · rw [if_neg (by first | exact h | (simp only [nIntSS] at h; omega))]
      refine Ev.neg (by first | omega | (simp only [nIntSS] at h; omega)) (Ev.eq (ih (i + 1) _ (by omega) (by first | omega | (simp only [nIntSS] at h; omega)) (by omega)) rfl ?_)
      by_cases h2 : a - nIntSS l[i] < tsum nIntSS (l.drop (i + 1))
      · rw [if_pos (by first | exact h2 | (simp only [nIntSS] at h2 ⊢; omega)), if_pos (by omega)]
      · rw [if_neg (by first | exact h2 | (simp only [nIntSS] at h2 ⊢; omega)), if_neg (by omega)]; first | omega | (simp only [nIntSS]; omega)
theorem szIntSSS (l : List (List (List Int))) (a : Int) (h0 : 0 ≤ a) (h1 : a ≤ 1048576) (hq : qIntSSS l) : Ev (fun k => laws_szIntSSS.f k l a) (if a < nIntSSS l then -1 else a - nIntSSS l) := by
  have hl1 := hq.1
  have hw : wrap64 (a - (l.length : Int)) = a - l.length := w64 (by omega) (by omega)
  unfold nIntSSS
  by_cases h : a < l.length
  · refine Ev.eq (Ev.const (r := -1) rfl) ?_ (by rw [if_pos (by omega)])
    funext k
    rw [laws_szIntSSS.f, hw, if_pos (by omega)]
  · refine Ev.eq (szIntSSS_loop l (by omega) hq.2 l.length 0 (a - l.length) (by omega) (by omega) (by omega)) ?_ ?_
    · funext k
      rw [laws_szIntSSS.f, hw, if_neg (by omega)]; rfl
    · rw [List.drop_zero]
      by_cases h2 : a - l.length < tsum nIntSS l
      · rw [if_pos h2, if_pos (by omega)]
      · rw [if_neg h2, if_neg (by omega)]; omega
theorem toIntSSS_loop (l : List (List (List Int))) (hn : nIntSSS l ≤ 1048576) : ∀ (d i : Nat), i + d = l.length → Ev (fun k => laws_toIntSSS.l0 k l (cIntSSS (l.take i) ++ List.replicate d []) (i : Int)) (cIntSSS l) := by
  have hlen : l.length ≤ 1048576 := by unfold nIntSSS at hn; omega
  intro d
  induction d with
  | zero =>
    intro i hi
    obtain rfl : i = l.length := by omega
    refine Ev.step (fun k => by rw [laws_toIntSSS.l0]) (Ev.neg (by omega) (Ev.const ?_))
    simp
  | succ d ih =>
    intro i hi
    have hlt : i < l.length := by omega
    refine Ev.step (fun k => by rw [laws_toIntSSS.l0]) (Ev.pos (by omega) (Ev.pos (by omega) ?_))
    have e : rd_L9 l (i : Int) = l[i] := by rw [rd_L9]; exact getD_nat _ _ _ hlt
    rw [e, inc (by omega)]
    have hx : nIntSS l[i] ≤ 1048576 := by have := tsum_mem nIntSS (List.getElem_mem hlt); unfold nIntSSS at hn; omega
    refine Ev.bind (toIntSS l[i] hx) (Ev.pos (by simp [cIntSSS]; omega) ?_)
    refine Ev.eq (ih (i + 1) (by omega)) ?_ rfl
    funext k
    have e : ((i : Int)).toNat = i := by omega
    have el : (cIntSSS (l.take i)).length = i := by simp [cIntSSS]; omega
    rw [e, fill_set' _ _ _ _ _ el, take_snoc hlt]
    rw [show cIntSSS (l.take i ++ [l[i]]) = cIntSSS (l.take i) ++ [cIntSS l[i]] from List.map_append ..]
    try rfl
theorem toIntSSS (l : List (List (List Int))) (hn : nIntSSS l ≤ 1048576) : Ev (fun k => laws_toIntSSS.f k l) (cIntSSS l) := by
  have h := toIntSSS_loop l hn l.length 0 (by omega)
  have hlen : l.length ≤ 1048576 := by unfold nIntSSS at hn; omega
  refine Ev.eq (Ev.pos (c := 0 ≤ (l.length : Int)) (g := fun _ => none) (by omega) (Ev.pos (c := ((l.length : Int) : Int).toNat ≤ 11728124029610) (g := fun _ => none) (by omega) h)) ?_ rfl
  funext k
  rw [laws_toIntSSS.f]; simp [cIntSSS]
theorem eqIntSSS_loop (l : List (List (List Int))) (hl : l.length ≤ 4611686018427387000) (hb : ∀ x ∈ l, mIntSS x) : ∀ (d i : Nat), i + d = l.length → Ev (fun k => laws_eqIntSSS.l0 k l l (i : Int)) true := by
  intro d
  induction d with
  | zero =>
    intro i hi
    exact Ev.step (fun k => by rw [laws_eqIntSSS.l0]) (Ev.neg (by omega) (Ev.const rfl))
  | succ d ih =>
    intro i hi
    have hlt : i < l.length := by omega
    refine Ev.step (fun k => by rw [laws_eqIntSSS.l0]) (Ev.pos (by omega) (Ev.pos (by omega) (Ev.pos (by omega) ?_)))
    have e : rd_L9 l (i : Int) = l[i] := by rw [rd_L9]; exact getD_nat _ _ _ hlt
    rw [e, inc (by omega)]
    exact Ev.bind (eqIntSS l[i] (hb _ (List.getElem_mem hlt))) (Ev.pos rfl (ih (i + 1) (by omega)))
theorem eqIntSSS (l : List (List (List Int))) (hm : mIntSSS l) : Ev (fun k => laws_eqIntSSS.f k l l) true :=
  Ev.eq (Ev.pos (c := (l.length : Int) = l.length) (g := fun _ => some false) rfl (eqIntSSS_loop l hm.1 hm.2 l.length 0 (by omega))) (by funext k; rw [laws_eqIntSSS.f]; rfl) rfl
theorem mcIntSSS {l : List (List (List Int))} (hn : nIntSSS l ≤ 1048576) : mIntSSS (cIntSSS l) := by
  unfold nIntSSS at hn
  refine ⟨by simp [cIntSSS]; omega, fun x hx => ?_⟩
  obtain ⟨y, hy, rfl⟩ := List.mem_map.1 hx
  have := tsum_mem nIntSS hy
  exact mcIntSS (by omega)
end Go.Proofs.Ythebbgobncbooaa.PLaw

namespace Go.Proofs.Ythebbgobncbooaa.PLaw
open Go.RowKit Go.Proofs.Ythebbgobncbooaa.P Go.Proofs.YthebbgobncbooaaW.PrintWords Go.Proofs.YthebbgobncbooaaW.PrintLast Go.Proofs.Ythebbgobncbooaa.PB
set_option linter.unusedVariables false

theorem szCache (x0 : List S89) (x1 : List (List (List Int))) (x2 : Int) (a : Int) (h0 : 0 ≤ a) (h1 : a ≤ 1048576) (qx0_ : qQueryS x0) (qx1_ : qIntSSS x1) (qx2_ : (Lit.int .i64 x2).wf = true) : Ev (fun k => laws_szCache.f k x0 x1 x2 a) (if a < ((nQueryS x0 + nIntSSS x1 : Nat) : Int) then -1 else a - ((nQueryS x0 + nIntSSS x1 : Nat) : Int)) := by
  unfold laws_szCache.f
  have g0 : a ≤ 1048576 := by first | omega | exact h1
  refine Ev.bind (szQueryS x0 a (by omega) (by omega) qx0_) ?_
  by_cases c0 : a < ((nQueryS x0 : Nat) : Int)
  · rw [if_pos c0]
    exact Ev.pos (by omega) (Ev.const (by first | rfl | rw [if_pos (by omega)]))
  rw [if_neg c0]
  refine Ev.neg (by omega) ?_
  have e0 : a - ((nQueryS x0 : Nat) : Int) = (a - ((nQueryS x0 : Nat) : Int)) := by omega
  rw [e0]
  have g1 : (a - ((nQueryS x0 : Nat) : Int)) ≤ 1048576 := by first | omega | exact h1
  refine Ev.bind (szIntSSS x1 (a - ((nQueryS x0 : Nat) : Int)) (by omega) (by omega) qx1_) ?_
  by_cases c1 : (a - ((nQueryS x0 : Nat) : Int)) < ((nIntSSS x1 : Nat) : Int)
  · rw [if_pos c1]
    exact Ev.pos (by omega) (Ev.const (by first | rfl | rw [if_pos (by omega)]))
  rw [if_neg c1]
  refine Ev.neg (by omega) ?_
  have e1 : (a - ((nQueryS x0 : Nat) : Int)) - ((nIntSSS x1 : Nat) : Int) = (a - ((nQueryS x0 + nIntSSS x1 : Nat) : Int)) := by omega
  rw [e1]
  exact Ev.const (by first | rfl | rw [if_neg (by omega)])
theorem toCache (x0 : List S89) (x1 : List (List (List Int))) (x2 : Int) (hn : nQueryS x0 + nIntSSS x1 ≤ 1048576) : Ev (fun k => laws_toCache.f k x0 x1 x2) (cQueryS x0, cIntSSS x1, x2) := by
  unfold laws_toCache.f
  refine Ev.bind (toQueryS x0 (by omega)) ?_
  refine Ev.bind (toIntSSS x1 (by omega)) ?_
  exact Ev.const rfl
theorem eqCache (x0 : List S96) (x1 : List (List (List Int))) (x2 : Int) (mx0_ : mQueryS x0) (mx1_ : mIntSSS x1) : Ev (fun k => laws_eqCache.f k x0 x1 x2 x0 x1 x2) true := by
  unfold laws_eqCache.f
  refine Ev.bind (eqQueryS x0 mx0_) (Ev.pos rfl ?_)
  refine Ev.bind (eqIntSSS x1 mx1_) (Ev.pos rfl ?_)
  first | refine Ev.pos rfl ?_ | skip
  exact Ev.const rfl
end Go.Proofs.Ythebbgobncbooaa.PLaw

namespace Go.Proofs.Ythebbgobncbooaa.PLaw
open Go.RowKit Go.Proofs.Ythebbgobncbooaa.P Go.Proofs.YthebbgobncbooaaW.PrintWords Go.Proofs.YthebbgobncbooaaW.PrintLast Go.Proofs.Ythebbgobncbooaa.PB
set_option linter.unusedVariables false

theorem szSchema (x0 : List Int) (a : Int) (h0 : 0 ≤ a) (h1 : a ≤ 1048576) (qx0_ : qIntS x0) : Ev (fun k => laws_szSchema.f x0 a) (if a < ((nIntS x0 : Nat) : Int) then -1 else a - ((nIntS x0 : Nat) : Int)) := by
  unfold laws_szSchema.f
  have g0 : a ≤ 1048576 := by first | omega | exact h1
  refine Ev.bind (szIntS x0 a (by omega) (by omega) qx0_) ?_
  by_cases c0 : a < ((nIntS x0 : Nat) : Int)
  · rw [if_pos c0]
    exact Ev.pos (by omega) (Ev.const (by first | rfl | rw [if_pos (by omega)]))
  rw [if_neg c0]
  refine Ev.neg (by omega) ?_
  have e0 : a - ((nIntS x0 : Nat) : Int) = (a - ((nIntS x0 : Nat) : Int)) := by omega
  rw [e0]
  exact Ev.const (by first | rfl | rw [if_neg (by omega)])
theorem toSchema (x0 : List Int) (hn : nIntS x0 ≤ 1048576) : Ev (fun k => laws_toSchema.f k x0) (cIntS x0) := by
  unfold laws_toSchema.f
  refine Ev.bind (toIntS x0 (by omega)) ?_
  exact Ev.const rfl
theorem eqSchema (x0 : List Int) (mx0_ : x0.length ≤ 4611686018427387000) : Ev (fun k => laws_eqSchema.f k x0 x0) true := by
  unfold laws_eqSchema.f
  refine Ev.bind (eqIntS x0 mx0_) (Ev.pos rfl ?_)
  exact Ev.const rfl
end Go.Proofs.Ythebbgobncbooaa.PLaw

namespace Go.Proofs.Ythebbgobncbooaa.Pure
open Go.RowKit Go.Proofs.Ythebbgobncbooaa.P Go.Proofs.YthebbgobncbooaaW.PrintWords Go.Proofs.YthebbgobncbooaaW.PrintLast Go.Proofs.Ythebbgobncbooaa.PB Go.Proofs.Ythebbgobncbooaa.PLaw Go.Proofs.Ythebbgobncbooaa.PCache Go.Proofs.Ythebbgobncbooaa.POkq
set_option linter.unusedVariables false
theorem FnExactIsCache : ∀ (l0_0 : List Int) (l1_0 : List (S89)) (l1_1 : List (List (List Int))) (a1_2 : Int), (qIntS l0_0) → (qQueryS l1_0) → (qIntSSS l1_1) → ((Lit.int .i64 a1_2).wf = true) → ∃ k, laws_FnExactIsCache.f k l0_0 l1_0 l1_1 a1_2 = some true := by
  intro l0_0 l1_0 l1_1 a1_2 ql0_0 ql1_0 ql1_1 qa1_2
  apply Ev.rounds
  unfold laws_FnExactIsCache.f
  have z0 := szSchema l0_0 1048576 (by omega) (by omega) ql0_0
  by_cases c0 : (1048576 : Int) < ((nIntS l0_0 : Nat) : Int)
  · rw [if_pos c0] at z0
    exact Ev.bind z0 (Ev.pos (by omega) (Ev.const rfl))
  rw [if_neg c0] at z0
  refine Ev.bind z0 (Ev.neg (by omega) ?_)
  have z1 := szCache l1_0 l1_1 a1_2 ((1048576 : Int) - ((nIntS l0_0 : Nat) : Int)) (by omega) (by omega) ql1_0 ql1_1 qa1_2
  by_cases c1 : ((1048576 : Int) - ((nIntS l0_0 : Nat) : Int)) < ((nQueryS l1_0 + nIntSSS l1_1 : Nat) : Int)
  · rw [if_pos c1] at z1
    exact Ev.bind z1 (Ev.pos (by omega) (Ev.const rfl))
  rw [if_neg c1] at z1
  refine Ev.bind z1 (Ev.neg (by omega) ?_)
  have sl0_0 : nIntS l0_0 ≤ 1048576 := by omega
  have sl1_0 : nQueryS l1_0 ≤ 1048576 := by omega
  have sl1_1 : nIntSSS l1_1 ≤ 1048576 := by omega
  have t0 := toSchema l0_0 (by omega)
  have t1 := toCache l1_0 l1_1 a1_2 (by omega)
  have e0 := eqSchema (cIntS l0_0) (mcIntS (by omega))
  have e1 := eqCache (cQueryS l1_0) (cIntSSS l1_1) a1_2 (mcQueryS (by omega)) (mcIntSSS (by omega))
  have hs : (cIntS l0_0).length ≤ 1048576 := sl0_0
  have hl : (cQueryS l1_0).length ≤ 1048576 := by unfold cQueryS; simp; unfold nQueryS at sl1_0; omega
  have ha : ∀ q ∈ cQueryS l1_0, okQ q := by
    intro q hq
    obtain ⟨y, hy, rfl⟩ := List.mem_map.1 hq
    have h1 := tsum_mem nQuery hy
    exact okQ_of (by unfold nQueryS at sl1_0; omega)
  have ht : okT (cIntSSS l1_1) := by
    refine ⟨by unfold cIntSSS; simp; unfold nIntSSS at sl1_1; omega, fun x hx => ?_⟩
    obtain ⟨y, hy, rfl⟩ := List.mem_map.1 hx
    have h1 := tsum_mem nIntSS hy
    unfold nIntSSS at sl1_1
    have h2 : nIntSS y ≤ 1048576 := by omega
    refine ⟨by unfold cIntSS; simp; unfold nIntSS at h2; omega, fun r hr => ?_⟩
    obtain ⟨z, hz, rfl⟩ := List.mem_map.1 hr
    have h3 : z.length ≤ tsum nIntS y := tsum_mem nIntS hz
    show z.length ≤ _
    unfold nIntSS at h2; omega
  have sp := spec_cache (cIntS l0_0) (cQueryS l1_0) (cIntSSS l1_1) a1_2 hs hl ha ht
  have im := impl_cache (cIntS l0_0) (cQueryS l1_0) (cIntSSS l1_1) a1_2 hs hl ha ht
  repeat' first
    | exact Ev.const rfl
    | refine Ev.pos rfl ?_
    | refine Ev.neg (by simp) ?_
    | refine Ev.bind t0 ?_
    | refine Ev.bind t1 ?_
    | refine Ev.bind sp ?_
    | refine Ev.bind im ?_
    | refine Ev.bind e0 ?_
    | refine Ev.bind e1 ?_
end Go.Proofs.Ythebbgobncbooaa.Pure

namespace Go.Proofs.Ythebbgobncbooaa.Opens
open Go.RowKit Go.Proofs.YthebbgobncbooaaW.PrintWords Go.Deep Go.ChangeShapes Go.WideShapes
set_option linter.unusedVariables false

/-- Whatever reads as data of type t is of kind d, and Q holds of it. -/
def Rdd {α : Type} (P : Program) (w : World) (t : TypeId) (d : Kd α) (Q : α → Prop) : Prop :=
  ∀ (H : Type) (enc : TypeId × Value → H) (fuel : Nat) (cs : List Value) (x : DataW H × List MemPlace),
    DataW.trod enc P w 0 (fun _ => true) true fuel t cs = some x → ∃ a, d.K w a cs ∧ Q a

variable {α β γ δ : Type} {P : Program} {w : World} {t e : TypeId}

theorem op_int {k : IntKind} (ht : P.underlying t = some (.int k)) : Rdd P w t (Kd.int k) (fun n => (Lit.int k n).wf = true) := by
  intro H enc fuel cs x h
  obtain ⟨n, rfl, _, hw⟩ := DataW.trod_int ht h
  exact ⟨n, rfl, hw⟩
theorem op_mono {d : Kd α} {Q Q' : α → Prop} (h : Rdd P w t d Q) (hq : ∀ a, Q a → Q' a) : Rdd P w t d Q' := by
  intro H enc fuel cs x hx
  obtain ⟨a, hk, hQ⟩ := h H enc fuel cs x hx
  exact ⟨a, hk, hq a hQ⟩
theorem op_slice {d : Kd α} {Q : α → Prop} (ht : P.underlying t = some (.slice e)) (hc : P.cellsOf e = d.sz) (hd : Rdd P w e d Q) :
    Rdd P w t (Kd.slice e d) (fun xs => xs.length ≤ 9223372036854775807 ∧ ∀ x ∈ xs, Q x) := by
  classical
  intro H enc fuel cs x h
  rcases open_slice ht h with ⟨rfl, _⟩ | ⟨a, len, cap, m, n, D, Pl, rfl, _, hl, hm, hmm, _, hx⟩
  · exact ⟨[], ⟨none, 0, rfl, Nat.le_refl _, Kd.C_nil d w⟩, by simp⟩
  · have hm' : m = cap := by simpa using hmm
    have hX : ∀ i, i < len → ∃ x : α, ∃ cs', w.cells? 0 (a.add (i * d.sz)) d.sz = some cs' ∧ d.K w x cs' ∧ Q x := by
      intro i hi
      obtain ⟨cs', h1, h2⟩ := hx i (by omega)
      obtain ⟨y, hk, hq⟩ := hd H enc n cs' _ h2
      rw [hc] at h1
      exact ⟨y, cs', h1, hk, hq⟩
    rcases Nat.eq_zero_or_pos len with h0 | h0
    · subst h0
      exact ⟨[], ⟨some a, cap, rfl, Nat.zero_le _, ⟨rfl, by simp, fun h => absurd h (Nat.lt_irrefl 0)⟩⟩, by simp⟩
    · obtain ⟨x0, _⟩ := hX 0 h0
      haveI : Inhabited α := ⟨x0⟩
      obtain ⟨X, hX'⟩ := choose_lt hX
      have hlen : ((List.range len).map X).length = len := by simp
      have hmx : ((List.range len).map X).length ≤ 9223372036854775807 := by rw [hlen]; unfold maxLen at hm; omega
      refine ⟨(List.range len).map X, ⟨some a, cap, by rw [hlen], by rw [hlen]; exact hl, ⟨rfl, hmx, fun _ => ⟨a, rfl, ?_⟩⟩⟩, hmx, ?_⟩
      · intro j p hj
        have hj' : j < len := by
          have := (List.getElem?_eq_some_iff.1 hj).1
          rwa [hlen] at this
        have hp : p = X j := by
          rw [List.getElem?_map, List.getElem?_range hj'] at hj
          simpa using hj.symm
        subst hp
        obtain ⟨cs', h1, h2, _⟩ := hX' j hj'
        obtain ⟨_, hl', hcell⟩ := World.cells?_some h1
        refine ⟨cs', hl', h2, fun i u hu => ?_⟩
        have hi : i < d.sz := by
          have := (List.getElem?_eq_some_iff.1 hu).1
          omega
        have := hcell i hi
        rw [hu] at this
        rw [← this, Addr.add_add]
      · intro x hx
        obtain ⟨i, hi, rfl⟩ := List.mem_map.1 hx
        exact (hX' i (List.mem_range.1 hi)).choose_spec.2.2
theorem op_iso {d : Kd α} {Q : α → Prop} (f : β → α) (g : α → β) (hfg : ∀ a, f (g a) = a) (h : Rdd P w t d Q) : Rdd P w t (Kd.iso d f) (fun b => Q (f b)) := by
  intro H enc fuel cs x hx
  obtain ⟨a, hk, hq⟩ := h H enc fuel cs x hx
  refine ⟨g a, ?_, ?_⟩
  · show d.K w (f (g a)) cs
    rw [hfg]; exact hk
  · show Q (f (g a))
    rw [hfg]; exact hq
theorem op_struct1 {f0 : Field} {d0 : Kd α} {Q0 : α → Prop} (ht : P.underlying t = some (.struct #[f0])) (h0 : f0.offset = 0) (z : P.cellsOf t = d0.sz) (z0 : P.cellsOf f0.type = d0.sz)
    (o0 : Rdd P w f0.type d0 Q0) : Rdd P w t d0 Q0 := by
  intro H enc fuel cs x hx
  obtain ⟨y0, n, rfl, hl, h1⟩ := trod_struct1 ht hx
  obtain ⟨a, hk, hq⟩ := o0 H enc n _ y0 h1
  rw [h0, List.drop_zero, List.take_of_length_le (by omega)] at hk
  exact ⟨a, hk, hq⟩
theorem op_struct2 {f0 f1 : Field} {d0 : Kd α} {d1 : Kd β} {Q0 : α → Prop} {Q1 : β → Prop} (ht : P.underlying t = some (.struct #[f0, f1])) (h0 : f0.offset = 0) (h1 : f1.offset = d0.sz)
    (z : P.cellsOf t = d0.sz + d1.sz) (z0 : P.cellsOf f0.type = d0.sz) (z1 : P.cellsOf f1.type = d1.sz)
    (o0 : Rdd P w f0.type d0 Q0) (o1 : Rdd P w f1.type d1 Q1) : Rdd P w t (Kd.pair d0 d1) (fun a => Q0 a.1 ∧ Q1 a.2) := by
  intro H enc fuel cs x hx
  obtain ⟨y0, y1, n, rfl, hl, g0, g1⟩ := trod_struct2 ht hx
  obtain ⟨a, hk, hq⟩ := o0 H enc n _ y0 g0
  obtain ⟨b, hk1, hq1⟩ := o1 H enc n _ y1 g1
  rw [h0, List.drop_zero, z0] at hk
  rw [h1, z1, List.take_of_length_le (by simp; omega)] at hk1
  exact ⟨(a, b), ⟨_, _, (List.take_append_drop d0.sz cs).symm, hk, hk1⟩, hq, hq1⟩
theorem op_struct3 {f0 f1 f2 : Field} {d0 : Kd α} {d1 : Kd β} {d2 : Kd γ} {Q0 : α → Prop} {Q1 : β → Prop} {Q2 : γ → Prop} (ht : P.underlying t = some (.struct #[f0, f1, f2])) (h0 : f0.offset = 0) (h1 : f1.offset = d0.sz)
    (h2 : f2.offset = d0.sz + d1.sz) (z : P.cellsOf t = d0.sz + (d1.sz + d2.sz)) (z0 : P.cellsOf f0.type = d0.sz) (z1 : P.cellsOf f1.type = d1.sz) (z2 : P.cellsOf f2.type = d2.sz)
    (o0 : Rdd P w f0.type d0 Q0) (o1 : Rdd P w f1.type d1 Q1) (o2 : Rdd P w f2.type d2 Q2) :
    Rdd P w t (Kd.pair d0 (Kd.pair d1 d2)) (fun a => Q0 a.1 ∧ Q1 a.2.1 ∧ Q2 a.2.2) := by
  intro H enc fuel cs x hx
  obtain ⟨y0, y1, y2, n, rfl, hl, g0, g1, g2⟩ := trod_struct3 ht hx
  obtain ⟨a, hk, hq⟩ := o0 H enc n _ y0 g0
  obtain ⟨b, hk1, hq1⟩ := o1 H enc n _ y1 g1
  obtain ⟨c, hk2, hq2⟩ := o2 H enc n _ y2 g2
  rw [h0, List.drop_zero, z0] at hk
  rw [h1, z1] at hk1
  rw [h2, z2, List.take_of_length_le (by simp; omega), ← List.drop_drop] at hk2
  exact ⟨(a, (b, c)), ⟨_, _, (List.take_append_drop d0.sz cs).symm, hk, ⟨_, _, (List.take_append_drop d1.sz (cs.drop d0.sz)).symm, hk1, hk2⟩⟩, hq, hq1, hq2⟩
theorem op_of {d : Kd α} {Q : α → Prop} {H : Type} {enc : TypeId × Value → H} {v : Value} {dd : DataW H} {ps : List MemPlace} (h : Rdd P w t d Q) (hx : DataW.Trod enc P w 0 (fun _ => true) true t v dd ps) :
    ∃ a, d.K w a v.cells.toList ∧ Q a := by
  obtain ⟨fuel, hf⟩ := hx
  exact h H enc fuel _ _ hf
end Go.Proofs.Ythebbgobncbooaa.Opens

