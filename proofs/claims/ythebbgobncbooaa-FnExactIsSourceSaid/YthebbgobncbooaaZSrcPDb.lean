/- Out of YthebbgobncbooaaPDb: what the claim needs of it. Conditions: each declaration's own. -/
import Derived.Test.YthebbgobncbooaaZSrcPx10
import Derived.Test.YthebbgobncbooaaZSrcPx11
import Derived.Test.YthebbgobncbooaaZSrcPx12
import Derived.Test.YthebbgobncbooaaZSrcPx7
import Derived.Test.YthebbgobncbooaaZSrcPx8
import Derived.Test.YthebbgobncbooaaZSrcPx9
import Derived.Test.YthebbgobncbooaaZSrcPSchema
import Derived.Test.YthebbgobncbooaaZSrcPLess
import Derived.Test.YthebbgobncbooaaZSrcPVals
namespace Go.Proofs.Ythebbgobncbooaa.PDb
open Go.RowKit Go.Proofs.Ythebbgobncbooaa.P Go.Proofs.YthebbgobncbooaaW.PrintWords Go.Proofs.YthebbgobncbooaaW.PrintLast Go.Proofs.Ythebbgobncbooaa.PB Go.Proofs.Ythebbgobncbooaa.PIn Go.Proofs.Ythebbgobncbooaa.PSchema Go.Proofs.Ythebbgobncbooaa.PLess Go.Proofs.Ythebbgobncbooaa.PVals
set_option linter.unusedVariables false
theorem impl_takes (s : List Int) (rel n : Int) (hs : s.length ≤ 1048576) : Ev (fun k => impl_Schema_takes.f k s rel n) (takes s rel n) := by
  unfold impl_Schema_takes.f takes
  refine Ev.bind (impl_schema s hs) ?_
  cases h : isSchema s with
  | false => exact Ev.neg (by simp) (Ev.const rfl)
  | true =>
    refine Ev.pos rfl (Ev.bindc (impl_in _ _ _) ?_)
    rw [w64 (by omega) (by omega)]
    cases h2 : inr rel 0 (s.length - 1) with
    | false => exact Ev.neg (by simp) (Ev.const rfl)
    | true =>
      have h2' : 0 ≤ rel ∧ rel ≤ s.length - 1 := by simpa only [inr, decide_eq_true_eq] using h2
      exact Ev.pos rfl (Ev.pos (by omega) (Ev.pos (by omega) (Ev.const rfl)))
def isFact (s : List Int) (rel : Int) (args : List Int) : Bool := takes s rel args.length && vals args
theorem impl_isFact (s : List Int) (rel : Int) (args : List Int) (hs : s.length ≤ 1048576) (ha : args.length ≤ 1048576) : Ev (fun k => impl_IsFact.f k s rel args) (isFact s rel args) := by
  unfold impl_IsFact.f isFact
  refine Ev.bind (impl_takes s rel _ hs) ?_
  cases h : takes s rel args.length with
  | false => exact Ev.neg (by simp) (Ev.const rfl)
  | true => exact Ev.pos rfl (Ev.bind (values_ev args (by omega)) (Ev.const rfl))
theorem spec_vals (rel : Int) (l : List Int) (hl : l.length ≤ 1048576) : Ev (fun k => spec_IsFact.l0 k 0 rel l) (vals l) := by
  have loop : ∀ (d i : Nat), i + d = l.length → Ev (fun k => spec_IsFact.l0 k (i : Int) rel l) (vals (l.drop i)) := by
    intro d
    induction d with
    | zero =>
      intro i hi
      obtain rfl : i = l.length := by omega
      rw [List.drop_length]
      show Ev _ true
      exact Ev.step (fun k => by rw [spec_IsFact.l0]) (Ev.neg (by omega) (Ev.const rfl))
    | succ d ih =>
      intro i hi
      have hlt : i < l.length := by omega
      refine Ev.step (fun k => by rw [spec_IsFact.l0]) (Ev.pos (by omega) (Ev.pos (by omega) ?_))
      rw [rd_nat _ _ hlt, inc (by omega), drop_cons hlt, vals, all_cons]
      refine Ev.bindc (spec_in _ _ _) ?_
      cases h : inr l[i] 0 99 with
      | true => exact Ev.pos rfl (Ev.eq (ih (i + 1) (by omega)) rfl (by simp only [Bool.true_and]; rfl))
      | false => exact Ev.neg (by simp) (Ev.const rfl)
  exact Ev.eq (loop l.length 0 (by omega)) rfl (by simp)
theorem spec_isFact (s : List Int) (rel : Int) (args : List Int) (hs : s.length ≤ 1048576) (ha : args.length ≤ 1048576) : Ev (fun k => spec_IsFact.f k s rel args) (isFact s rel args) := by
  unfold spec_IsFact.f isFact takes
  refine Ev.bind (spec_schema s hs) ?_
  have out : Ev (fun k => spec_IsFact.j0 k true rel args) false := Ev.step (fun k => by rw [spec_IsFact.j0]) (Ev.pos rfl (Ev.const rfl))
  cases h : isSchema s with
  | false => exact Ev.neg (by simp) out
  | true =>
    refine Ev.pos rfl (Ev.bindc (spec_in _ _ _) ?_)
    rw [w64 (by omega) (by omega)]
    cases h2 : inr rel 0 (s.length - 1) with
    | false => exact Ev.neg (by simp) out
    | true =>
      have h2' : 0 ≤ rel ∧ rel ≤ s.length - 1 := by simpa only [inr, decide_eq_true_eq] using h2
      refine Ev.pos rfl (Ev.pos (by omega) (Ev.pos (by omega) (Ev.step (fun k => by rw [spec_IsFact.j0]) ?_)))
      by_cases h3 : rd s rel = args.length
      · refine Ev.neg (by simp; omega) (Ev.eq (spec_vals rel args ha) rfl ?_)
        rw [h3]; simp
      · refine Ev.pos (by simp; omega) (Ev.const ?_)
        have e : (rd s rel == (args.length : Int)) = false := by simpa using h3
        rw [e]; rfl
def cmpF (a b : S103) : Int := if a.f0 < b.f0 then -1 else if a.f0 > b.f0 then 1 else cmpL a.f1 b.f1
theorem impl_cmp (a b : S103) (ha : a.f1.length ≤ 1048576) (hb : b.f1.length ≤ 1048576) : Ev (fun k => impl_compareFacts.f k a.f0 a.f1 b.f0 b.f1) (cmpF a b) := by
  unfold impl_compareFacts.f cmpF
  by_cases h1 : a.f0 < b.f0
  · simp only [if_pos h1]; exact Ev.const rfl
  · by_cases h2 : a.f0 > b.f0
    · simp only [if_neg h1, if_pos h2]; exact Ev.const rfl
    · simp only [if_neg h1, if_neg h2]; exact Ev.bind (compare_ev _ _ ha hb) (Ev.const rfl)
theorem spec_less (a b : S103) (ha : a.f1.length ≤ 1048576) (hb : b.f1.length ≤ 1048576) : Ev (fun k => spec_l5Less.f k a.f0 a.f1 b.f0 b.f1) (decide (cmpF a b < 0)) := by
  unfold spec_l5Less.f cmpF
  by_cases h : a.f0 = b.f0
  · refine Ev.pos h (Ev.bind (less_ev _ _ ha hb) (Ev.const ?_))
    rw [if_neg (by omega), if_neg (by omega)]
  · refine Ev.neg h (Ev.const ?_)
    by_cases h1 : a.f0 < b.f0
    · rw [if_pos h1, decide_eq_true h1]; rfl
    · rw [if_neg h1, if_pos (by omega), decide_eq_false h1]; rfl
/-- From place i on: all facts are valid, and each comes behind the one ahead of it. -/
def dbFrom (s : List Int) (db : List S103) : Nat → Nat → Bool
  | _, 0 => isSchema s && decide (db.length ≤ 24)
  | i, d + 1 => isFact s (rd_T103 db i).f0 (rd_T103 db i).f1 && ((i == 0 || decide (cmpF (rd_T103 db ((i : Int) - 1)) (rd_T103 db i) < 0)) && dbFrom s db (i + 1) d)
def isDb (s : List Int) (db : List S103) : Bool := dbFrom s db 0 db.length
theorem rdF (l : List S103) (i : Int) (h0 : 0 ≤ i) (h : i < l.length) : rd_T103 l i ∈ l := by
  rw [rd_T103, List.getD_eq_getElem?_getD, List.getElem?_eq_getElem (by omega)]; exact List.getElem_mem _
theorem impl_db (s : List Int) (db : List S103) (hs : s.length ≤ 1048576) (hl : db.length ≤ 1048576) (ha : ∀ f ∈ db, f.f1.length ≤ 1048576) : Ev (fun k => impl_IsDatabase.f k s db) (isDb s db) := by
  have loop : ∀ (d i : Nat), i + d = db.length → Ev (fun k => impl_IsDatabase.l0 k db db (db.length : Int) (i : Int) s) (dbFrom s db i d) := by
    intro d
    induction d with
    | zero =>
      intro i hi
      refine Ev.step (fun k => by rw [impl_IsDatabase.l0]) (Ev.neg (by omega) (Ev.bind (impl_schema s hs) ?_))
      rw [dbFrom]
      cases isSchema s with
      | false => exact Ev.neg (by simp) (Ev.const rfl)
      | true => exact Ev.pos rfl (Ev.const (by simp; omega))
    | succ d ih =>
      intro i hi
      have hi1 := ha _ (rdF db i (by omega) (by omega))
      refine Ev.step (fun k => by rw [impl_IsDatabase.l0]) (Ev.pos (by omega) (Ev.pos (by omega) (Ev.pos (by omega) (Ev.bind (impl_isFact s _ _ hs hi1) ?_))))
      rw [dbFrom, inc (by omega)]
      cases isFact s (rd_T103 db i).f0 (rd_T103 db i).f1 with
      | false => exact Ev.neg (by simp) (Ev.const rfl)
      | true =>
        refine Ev.pos rfl ?_
        by_cases h0 : i = 0
        · subst h0
          exact Ev.neg (by omega) (Ev.eq (ih (0 + 1) (by omega)) rfl (by simp))
        · rw [w64 (by omega) (by omega)]
          have hi2 := ha _ (rdF db ((i : Int) - 1) (by omega) (by omega))
          refine Ev.pos (by omega) (Ev.pos (by omega) (Ev.pos (by omega) (Ev.bind (impl_cmp _ _ hi2 hi1) ?_)))
          have e : (i == 0) = false := by simpa using h0
          rw [e]
          by_cases h3 : cmpF (rd_T103 db ((i : Int) - 1)) (rd_T103 db i) < 0
          · refine Ev.neg (by omega) (Ev.eq (ih (i + 1) (by omega)) rfl ?_)
            rw [decide_eq_true h3]; simp only [Bool.true_and, Bool.false_or]
          · refine Ev.pos (by omega) (Ev.const ?_)
            rw [decide_eq_false h3]; rfl
  exact Ev.eq (loop db.length 0 (by omega)) (by funext k; rw [impl_IsDatabase.f]; rfl) rfl
theorem spec_db (s : List Int) (db : List S103) (hs : s.length ≤ 1048576) (hl : db.length ≤ 1048576) (ha : ∀ f ∈ db, f.f1.length ≤ 1048576) : Ev (fun k => spec_IsDatabase.f k s db) (isDb s db) := by
  have loop : ∀ (d i : Nat), i + d = db.length → Ev (fun k => spec_IsDatabase.l0 k db (i : Int) s) (dbFrom s db i d) := by
    intro d
    induction d with
    | zero =>
      intro i hi
      refine Ev.step (fun k => by rw [spec_IsDatabase.l0]) (Ev.neg (by omega) (Ev.bind (spec_schema s hs) ?_))
      rw [dbFrom]
      cases isSchema s with
      | false => exact Ev.neg (by simp) (Ev.const rfl)
      | true => exact Ev.pos rfl (Ev.const (by simp; omega))
    | succ d ih =>
      intro i hi
      have hi1 := ha _ (rdF db i (by omega) (by omega))
      refine Ev.step (fun k => by rw [spec_IsDatabase.l0]) (Ev.pos (by omega) (Ev.pos (by omega) (Ev.bind (spec_isFact s _ _ hs hi1) ?_)))
      rw [dbFrom, inc (by omega)]
      cases isFact s (rd_T103 db i).f0 (rd_T103 db i).f1 with
      | false => exact Ev.neg (by simp) (Ev.const rfl)
      | true =>
        refine Ev.pos rfl ?_
        by_cases h0 : i = 0
        · subst h0
          exact Ev.neg (by omega) (Ev.eq (ih (0 + 1) (by omega)) rfl (by simp))
        · rw [w64 (by omega) (by omega)]
          have hi2 := ha _ (rdF db ((i : Int) - 1) (by omega) (by omega))
          refine Ev.pos (by omega) (Ev.pos (by omega) (Ev.pos (by omega) (Ev.bind (spec_less _ _ hi2 hi1) ?_)))
          have e : (i == 0) = false := by simpa using h0
          rw [e]
          by_cases h3 : cmpF (rd_T103 db ((i : Int) - 1)) (rd_T103 db i) < 0
          · refine Ev.pos (decide_eq_true h3) (Ev.eq (ih (i + 1) (by omega)) rfl ?_)
            rw [decide_eq_true h3]; simp only [Bool.true_and, Bool.false_or]
          · refine Ev.neg (by simpa using h3) (Ev.const ?_)
            rw [decide_eq_false h3]; rfl
  exact Ev.eq (loop db.length 0 (by omega)) (by funext k; rw [spec_IsDatabase.f]; rfl) rfl
def isSource (s : List Int) (db : List S103) (v : Int) : Bool := isDb s db && inr v 0 1000
theorem impl_source (s : List Int) (db : List S103) (v : Int) (hs : s.length ≤ 1048576) (hl : db.length ≤ 1048576) (ha : ∀ f ∈ db, f.f1.length ≤ 1048576) : Ev (fun k => impl_IsSource.f k s db v) (isSource s db v) := by
  unfold impl_IsSource.f isSource
  refine Ev.bind (impl_db s db hs hl ha) ?_
  cases isDb s db with
  | false => exact Ev.neg (by simp) (Ev.const rfl)
  | true => exact Ev.pos rfl (Ev.bindc (impl_in _ _ _) (Ev.const rfl))
theorem spec_source (s : List Int) (db : List S103) (v : Int) (hs : s.length ≤ 1048576) (hl : db.length ≤ 1048576) (ha : ∀ f ∈ db, f.f1.length ≤ 1048576) : Ev (fun k => spec_IsSource.f k s db v) (isSource s db v) := by
  unfold spec_IsSource.f isSource
  refine Ev.bind (spec_db s db hs hl ha) ?_
  cases isDb s db with
  | false => exact Ev.neg (by simp) (Ev.const rfl)
  | true => exact Ev.pos rfl (Ev.bindc (spec_in _ _ _) (Ev.const rfl))
end Go.Proofs.Ythebbgobncbooaa.PDb

