/- Out of YtjiipeidginjnaaPJoin: what the claim needs of it. Conditions: each declaration's own. -/
import Derived.Test.YtjiipeidginjnaaZFlnPx3
import Derived.Test.YtjiipeidginjnaaZFlnPNum
namespace Go.Proofs.Ytjiipeidginjnaa.PJoin
open Go.RowKit Go.Proofs.Ytjiipeidginjnaa.P Go.Proofs.YtjiipeidginjnaaW.PrintWords Go.Proofs.YtjiipeidginjnaaW.PrintLast Go.Proofs.Ytjiipeidginjnaa.PB Go.Proofs.Ytjiipeidginjnaa.PNum
set_option linter.unusedVariables false

/-- What is there is followed by the texts; ahead of each, or of each but the first, stands 'by'. -/
def jn (b : ByteArray) : Bool → ByteArray → List ByteArray → ByteArray
  | _, s, [] => s
  | p, s, x :: r => jn b true (if p = true then (s ++ b) ++ x else s ++ x) r
def total (b : ByteArray) : List ByteArray → Nat
  | [] => 0
  | x :: r => b.size + x.size + total b r
theorem total_map {α : Type} (b : ByteArray) (f : α → ByteArray) (B : Nat) (xs : List α) (h : ∀ x ∈ xs, (f x).size ≤ B) : total b (xs.map f) ≤ xs.length * (b.size + B) := by
  induction xs with
  | nil => simp [total]
  | cons x r ih =>
    have := ih (fun y hy => h y (by simp [hy])); have := h x (by simp)
    simp only [List.map_cons, total, List.length_cons, Nat.add_mul]; omega
theorem jn_size (b : ByteArray) : ∀ (xs : List ByteArray) (p : Bool) (s : ByteArray), (jn b p s xs).size ≤ s.size + total b xs := by
  intro xs
  induction xs with
  | nil => intro p s; simp [jn, total]
  | cons x r ih =>
    intro p s
    rw [jn]; refine Nat.le_trans (ih _ _) ?_
    cases p <;> simp [total, ByteArray.size_append] <;> omega
theorem glued_loop (b : ByteArray) (l : List ByteArray) (hl : l.length ≤ 4611686018427387000) : ∀ (d i : Nat) (s : ByteArray), i + d = l.length → s.size + total b (l.drop i) ≤ 9223372036854775807 →
    Ev (fun k => impl_glued.l0 k b s l (l.length : Int) (i : Int)) (jn b (decide (0 < i)) s (l.drop i)) := by
  intro d
  induction d with
  | zero =>
    intro i s hi hs
    obtain rfl : i = l.length := by omega
    refine Ev.step (fun k => by rw [impl_glued.l0]) (Ev.neg (by omega) (Ev.const ?_))
    simp [jn]
  | succ d ih =>
    intro i s hi hs
    have hlt : i < l.length := by omega
    rw [drop_cons hlt] at hs ⊢
    simp only [total] at hs
    refine Ev.step (fun k => by rw [impl_glued.l0]) (Ev.pos (by omega) (Ev.pos (by omega) (Ev.pos (by omega) ?_)))
    rw [rdOf_nat _ _ _ hlt, inc (by omega)]
    by_cases h0 : 0 < i
    · refine Ev.pos (by omega) (Ev.pos (by omega) (Ev.pos (by rw [ByteArray.size_append]; omega) ?_))
      refine Ev.eq (ih (i + 1) _ (by omega) (by simp only [ByteArray.size_append]; omega)) rfl ?_
      simp [jn, h0]
    · obtain rfl : i = 0 := by omega
      refine Ev.neg (by omega) (Ev.pos (by omega) ?_)
      refine Ev.eq (ih (0 + 1) _ (by omega) (by simp only [ByteArray.size_append]; omega)) rfl ?_
      simp [jn]
theorem glued_ev (b : ByteArray) (l : List ByteArray) (hl : l.length ≤ 4611686018427387000) (ht : total b l ≤ 9223372036854775807) : Ev (fun k => impl_glued.f k l b) (jn b false ⟨#[]⟩ l) := by
  have := glued_loop b l hl l.length 0 ⟨#[]⟩ (by omega) (by have e0 : (⟨#[]⟩ : ByteArray).size = 0 := rfl; rw [List.drop_zero]; omega)
  exact Ev.eq this (by funext k; rw [impl_glued.f]; rfl) (by simp)

def comma : ByteArray := ⟨#[44]⟩
theorem numbers_loop (l : List Int) (hl : l.length ≤ 8796093022207) (hw : ∀ x ∈ l, (Lit.int .i64 x).wf = true) : ∀ (d i : Nat), i + d = l.length →
    Ev (fun k => impl_numbers.l0 k ((l.take i).map fmt) l (l.length : Int) (i : Int)) (jn comma false ⟨#[]⟩ (l.map fmt)) := by
  intro d
  induction d with
  | zero =>
    intro i hi
    obtain rfl : i = l.length := by omega
    refine Ev.step (fun k => by rw [impl_numbers.l0]) (Ev.neg (by omega) ?_)
    rw [List.take_length]
    refine Ev.last (f := fun x => x) (glued_ev comma (l.map fmt) (by simp; omega) ?_)
    have := total_map comma fmt 21 l (fun x _ => fmt_size x)
    have e : comma.size = 1 := rfl
    rw [e] at this; omega
  | succ d ih =>
    intro i hi
    have hlt : i < l.length := by omega
    refine Ev.step (fun k => by rw [impl_numbers.l0]) (Ev.pos (by omega) (Ev.pos (by omega) (Ev.pos (by omega) ?_)))
    rw [rd_nat _ _ hlt, inc (by omega)]
    refine Ev.bind (impl_ev (hw _ (List.getElem_mem hlt))) (Ev.pos (by simp; omega) ?_)
    refine Ev.eq (ih (i + 1) (by omega)) ?_ rfl
    funext k
    rw [take_snoc hlt, List.map_append]; rfl
/-- Numbers with commas between. -/
def nums_ (l : List Int) : ByteArray := jn comma false ⟨#[]⟩ (l.map fmt)
theorem numbers_ev (l : List Int) (hl : l.length ≤ 8796093022207) (hw : ∀ x ∈ l, (Lit.int .i64 x).wf = true) : Ev (fun k => impl_numbers.f k l) (nums_ l) := by
  have := numbers_loop l hl hw l.length 0 (by omega)
  exact Ev.eq this (by funext k; rw [impl_numbers.f]; rfl) rfl
theorem nums_size (l : List Int) : (nums_ l).size ≤ l.length * 22 := by
  have h1 := jn_size comma (l.map fmt) false ⟨#[]⟩
  have h2 := total_map comma fmt 21 l (fun x _ => fmt_size x)
  have e : comma.size = 1 := rfl
  have e0 : (⟨#[]⟩ : ByteArray).size = 0 := rfl
  rw [e] at h2
  unfold nums_; omega
def none_ : ByteArray := ⟨#[110, 111, 110, 101]⟩
end Go.Proofs.Ytjiipeidginjnaa.PJoin

