/- Out of YtjiipeidginjnaaPFact: what the claim needs of it. Conditions: each declaration's own. -/
import Derived.Test.YtjiipeidginjnaaZFlnPx1
import Derived.Test.YtjiipeidginjnaaZFlnPx3
import Derived.Test.YtjiipeidginjnaaZFlnPJoin
import Derived.Test.YtjiipeidginjnaaZFlnPVals
namespace Go.Proofs.Ytjiipeidginjnaa.PFact
open Go.RowKit Go.Proofs.Ytjiipeidginjnaa.P Go.Proofs.YtjiipeidginjnaaW.PrintWords Go.Proofs.YtjiipeidginjnaaW.PrintLast Go.Proofs.Ytjiipeidginjnaa.PB Go.Proofs.Ytjiipeidginjnaa.PNum Go.Proofs.Ytjiipeidginjnaa.PJoin Go.Proofs.Ytjiipeidginjnaa.PIn Go.Proofs.Ytjiipeidginjnaa.PVals
set_option linter.unusedVariables false

def okFact (rel : Int) (args : List Int) : Bool := inr rel 0 3 && (inr args.length 1 3 && vals args)
def rB : ByteArray := ⟨#[114]⟩
def openB : ByteArray := ⟨#[40]⟩
def closeB : ByteArray := ⟨#[41]⟩
/-- The text of a fact. -/
def factB (rel : Int) (args : List Int) : ByteArray := if okFact rel args = true then (((rB ++ fmt rel) ++ openB) ++ nums_ args) ++ closeB else ⟨#[]⟩
theorem jn_pre (b a : ByteArray) : ∀ (l : List ByteArray) (p : Bool) (s : ByteArray), jn b p (a ++ s) l = a ++ jn b p s l := by
  intro l
  induction l with
  | nil => intro p s; simp [jn]
  | cons x r ih =>
    intro p s
    cases p <;> simp only [jn, ba_assoc, if_true, if_false, Bool.false_eq_true] <;> rw [ih]
theorem sfact_loop (rel : Int) (l : List Int) (hl : l.length ≤ 3) (hw : ∀ x ∈ l, (Lit.int .i64 x).wf = true) : ∀ (d i : Nat) (s : ByteArray), i + d = l.length → s.size ≤ 100 + 30 * i →
    Ev (fun k => spec_FormatFact.l0 k s (i : Int) rel l) (if vals (l.drop i) = true then jn comma (decide (0 < i)) s ((l.drop i).map fmt) ++ closeB else ⟨#[]⟩) := by
  intro d
  induction d with
  | zero =>
    intro i s hi hs
    obtain rfl : i = l.length := by omega
    refine Ev.step (fun k => by rw [spec_FormatFact.l0]) (Ev.neg (by omega) (Ev.pos (by omega) (Ev.const ?_)))
    simp [vals, jn, closeB]
  | succ d ih =>
    intro i s hi hs
    have hlt : i < l.length := by omega
    have hwi := spec_ev (hw _ (List.getElem_mem hlt))
    have hf := fmt_size l[i]
    have c1 : (⟨#[44]⟩ : ByteArray).size = 1 := rfl
    refine Ev.step (fun k => by rw [spec_FormatFact.l0]) (Ev.pos (by omega) (Ev.pos (by omega) ?_))
    rw [rd_nat _ _ hlt, inc (by omega), drop_cons hlt]
    refine Ev.bindc (spec_in _ _ _) ?_
    by_cases h : inr l[i] 0 99 = true
    · refine Ev.pos h ?_
      by_cases h0 : 0 < i
      · refine Ev.pos (by omega) (Ev.pos (by omega) (Ev.bind hwi (Ev.pos (by rw [ByteArray.size_append]; omega) ?_)))
        refine Ev.eq (ih (i + 1) _ (by omega) (by simp only [ByteArray.size_append]; omega)) rfl ?_
        simp [vals, h, jn, h0, comma, -List.getElem_cons_drop]
      · obtain rfl : i = 0 := by omega
        refine Ev.neg (by omega) (Ev.bind hwi (Ev.pos (by omega) ?_))
        refine Ev.eq (ih (0 + 1) _ (by omega) (by simp only [ByteArray.size_append]; omega)) rfl ?_
        simp [vals, h, jn, -List.getElem_cons_drop]
    · refine Ev.neg h (Ev.const ?_)
      simp [vals, h, -List.getElem_cons_drop]
theorem spec_fact {rel : Int} {args : List Int} (hr : (Lit.int .i64 rel).wf = true) (hw : ∀ x ∈ args, (Lit.int .i64 x).wf = true) : Ev (fun k => spec_FormatFact.f k rel args) (factB rel args) := by
  unfold spec_FormatFact.f
  refine Ev.bindc (spec_in _ _ _) ?_
  have hout : ∀ k : Nat, True := fun _ => trivial
  by_cases h1 : inr rel 0 3 = true
  · refine Ev.pos h1 (Ev.bindc (spec_in _ _ _) ?_)
    refine Ev.step (fun k => by rw [spec_FormatFact.j0]) ?_
    by_cases h2 : inr args.length 1 3 = true
    · refine Ev.neg (by simp [h2]) (Ev.bind (spec_ev hr) ?_)
      have hf := fmt_size rel
      have c1 : (⟨#[114]⟩ : ByteArray).size = 1 := rfl
      have c2 : (⟨#[40]⟩ : ByteArray).size = 1 := rfl
      refine Ev.pos (by omega) (Ev.pos (by rw [ByteArray.size_append]; omega) ?_)
      have hl : args.length ≤ 3 := by simp only [inr, decide_eq_true_eq] at h2; omega
      refine Ev.eq (sfact_loop rel args hl hw args.length 0 _ (by omega) (by simp only [ByteArray.size_append]; omega)) rfl ?_
      rw [List.drop_zero]
      unfold factB
      by_cases h3 : vals args = true
      · rw [if_pos h3, if_pos (by simp [okFact, h1, h2, h3])]
        have := jn_pre comma ((rB ++ fmt rel) ++ openB) (args.map fmt) false ⟨#[]⟩
        rw [ba_nil'] at this
        show jn comma (decide (0 < 0)) ((rB ++ fmt rel) ++ openB) (args.map fmt) ++ closeB = _
        rw [show decide (0 < 0) = false by decide, this]; rfl
      · rw [if_neg h3, if_neg (by simp [okFact, h1, h2, h3])]
    · refine Ev.pos (by simp [h2]) (Ev.const ?_)
      rw [factB, if_neg (by simp [okFact, h1, h2])]
  · refine Ev.neg h1 (Ev.step (fun k => by rw [spec_FormatFact.j0]) (Ev.pos rfl (Ev.const ?_)))
    rw [factB, if_neg (by simp [okFact, h1])]
theorem impl_fact {rel : Int} {args : List Int} (hr : (Lit.int .i64 rel).wf = true) (hw : ∀ x ∈ args, (Lit.int .i64 x).wf = true) : Ev (fun k => impl_FormatFact.f k rel args) (factB rel args) := by
  unfold impl_FormatFact.f
  refine Ev.bindc (impl_in _ _ _) ?_
  by_cases h1 : inr rel 0 3 = true
  · refine Ev.pos h1 (Ev.bindc (impl_in _ _ _) ?_)
    by_cases h2 : inr args.length 1 3 = true
    · have hl : args.length ≤ 3 := by simp only [inr, decide_eq_true_eq] at h2; omega
      refine Ev.pos h2 (Ev.bind (values_ev args (by omega)) ?_)
      refine Ev.step (fun k => by rw [impl_FormatFact.j0]) ?_
      by_cases h3 : vals args = true
      · have hf := fmt_size rel; have hn := nums_size args
        have c1 : (⟨#[114]⟩ : ByteArray).size = 1 := rfl
        have c2 : (⟨#[40]⟩ : ByteArray).size = 1 := rfl
        refine Ev.neg (by simp [h3]) (Ev.bind (impl_ev hr) (Ev.pos (by omega) (Ev.pos (by rw [ByteArray.size_append]; omega) (Ev.bind (numbers_ev args (by omega) hw) (Ev.pos (by simp only [ByteArray.size_append]; omega) (Ev.pos (by simp only [ByteArray.size_append]; omega) (Ev.const ?_)))))))
        rw [factB, if_pos (by simp [okFact, h1, h2, h3])]; rfl
      · refine Ev.pos (by simp [h3]) (Ev.const ?_)
        rw [factB, if_neg (by simp [okFact, h1, h2, h3])]
    · refine Ev.neg h2 (Ev.step (fun k => by rw [impl_FormatFact.j0]) (Ev.pos rfl (Ev.const ?_)))
      rw [factB, if_neg (by simp [okFact, h1, h2])]
  · refine Ev.neg h1 (Ev.step (fun k => by rw [impl_FormatFact.j0]) (Ev.pos rfl (Ev.const ?_)))
    rw [factB, if_neg (by simp [okFact, h1])]
end Go.Proofs.Ytjiipeidginjnaa.PFact

