/- Lists of numbers as texts: the reference's and the program's FormatTuples come to the same text. Conditions: bounds on lengths. -/
import Derived.Test.YtcneohelnfcbbaaPx0
import Derived.Test.YtcneohelnfcbbaaPx1
import Derived.Test.YtcneohelnfcbbaaPx2
import Derived.Test.YtcneohelnfcbbaaPx4
import Derived.Test.YtcneohelnfcbbaaPJoin
import Derived.Test.YtcneohelnfcbbaaPLawI
namespace Go.Proofs.Ytcneohelnfcbbaa.PTup
open Go.RowKit Go.Proofs.Ytcneohelnfcbbaa.P Go.Proofs.YtcneohelnfcbbaaW.PrintWords Go.Proofs.YtcneohelnfcbbaaW.PrintLast Go.Proofs.Ytcneohelnfcbbaa.PB Go.Proofs.Ytcneohelnfcbbaa.PNum Go.Proofs.Ytcneohelnfcbbaa.PJoin Go.Proofs.Ytcneohelnfcbbaa.PL
set_option linter.unusedVariables false

def tup (l : List Int) : ByteArray := ((⟨#[40]⟩ : ByteArray) ++ nums_ l) ++ (⟨#[41]⟩ : ByteArray)
theorem tup_size (l : List Int) : (tup l).size ≤ 22 * l.length + 2 := by
  have := nums_size l
  have e1 : (⟨#[40]⟩ : ByteArray).size = 1 := rfl
  have e2 : (⟨#[41]⟩ : ByteArray).size = 1 := rfl
  unfold tup; rw [ByteArray.size_append, ByteArray.size_append]; omega
theorem tup_pos (l : List Int) : 2 ≤ (tup l).size := by
  have e1 : (⟨#[40]⟩ : ByteArray).size = 1 := rfl
  have e2 : (⟨#[41]⟩ : ByteArray).size = 1 := rfl
  unfold tup; rw [ByteArray.size_append, ByteArray.size_append]; omega
theorem tuple_loop (l : List Int) (hl : l.length ≤ 8796093022207) (hw : ∀ x ∈ l, (Lit.int .i64 x).wf = true) : ∀ (d i : Nat) (s : ByteArray), i + d = l.length → s.size + total comma ((l.drop i).map fmt) + 2 ≤ 9223372036854775807 →
    Ev (fun k => spec_l24Tuple.l0 k l s (i : Int)) (((⟨#[40]⟩ : ByteArray) ++ jn comma (decide (0 < i)) s ((l.drop i).map fmt)) ++ (⟨#[41]⟩ : ByteArray)) := by
  have c1 : (⟨#[44]⟩ : ByteArray).size = 1 := rfl
  have c0 : (⟨#[40]⟩ : ByteArray).size = 1 := rfl
  intro d
  induction d with
  | zero =>
    intro i s hi hs
    obtain rfl : i = l.length := by omega
    simp only [List.drop_length, List.map_nil, total] at hs
    refine Ev.step (fun k => by rw [spec_l24Tuple.l0]) (Ev.neg (by omega) (Ev.pos (by omega) (Ev.pos (by rw [ByteArray.size_append]; omega) (Ev.const ?_))))
    simp [jn]
  | succ d ih =>
    intro i s hi hs
    have hlt : i < l.length := by omega
    have hwi := hw _ (List.getElem_mem hlt)
    rw [drop_cons hlt] at hs ⊢
    simp only [List.map_cons, total] at hs
    have cc : comma.size = 1 := rfl
    refine Ev.step (fun k => by rw [spec_l24Tuple.l0]) (Ev.pos (by omega) ?_)
    rw [rd_nat _ _ hlt, inc (by omega)]
    by_cases h0 : 0 < i
    · refine Ev.pos (by omega) (Ev.pos (by omega) (Ev.pos (by omega) (Ev.bind (spec_ev hwi) (Ev.pos (by rw [ByteArray.size_append]; omega) ?_))))
      refine Ev.eq (ih (i + 1) _ (by omega) (by simp only [ByteArray.size_append]; omega)) rfl ?_
      rw [List.map_cons, jn, decide_eq_true (show 0 < i + 1 by omega), decide_eq_true h0]; rfl
    · obtain rfl : i = 0 := by omega
      refine Ev.neg (by omega) (Ev.pos (by omega) (Ev.bind (spec_ev hwi) (Ev.pos (by omega) ?_)))
      refine Ev.eq (ih (0 + 1) _ (by omega) (by simp only [ByteArray.size_append]; omega)) rfl ?_
      rw [List.map_cons, jn]; rfl
theorem tuple_ev (l : List Int) (hl : l.length ≤ 8796093022207) (hw : ∀ x ∈ l, (Lit.int .i64 x).wf = true) : Ev (fun k => spec_l24Tuple.f k l) (tup l) := by
  have h2 := total_map comma fmt 21 l (fun x _ => fmt_size x)
  have e : comma.size = 1 := rfl
  have e0 : (⟨#[]⟩ : ByteArray).size = 0 := rfl
  rw [e] at h2
  exact Ev.eq (tuple_loop l hl hw l.length 0 ⟨#[]⟩ (by omega) (by rw [List.drop_zero]; omega)) (by funext k; rw [spec_l24Tuple.f]; rfl) (by simp [tup, nums_])
theorem total_tup (l : List (List Int)) : total blankB (l.map tup) ≤ 3 * l.length + 22 * tot l := by
  induction l with
  | nil => simp [total]
  | cons x r ih =>
    have := tup_size x
    have e : blankB.size = 1 := rfl
    simp only [List.map_cons, total, List.length_cons, tot, e]; omega
theorem not_nil {s : ByteArray} (h : 0 < s.size) : ¬ s.toList = ([] : List UInt8) := by
  intro h0
  have h1 : s.data.toList = [] := by
    rw [← ByteArray.toList_eq]; exact h0
  have : s.size = 0 := by
    show s.data.size = 0
    rw [← Array.length_toList, h1]; rfl
  omega
theorem spec_tuples_loop (l : List (List Int)) (hl : l.length ≤ 1048576) (hb : ∀ x ∈ l, x.length ≤ 1048576) (hw : ∀ v ∈ l, ∀ x ∈ v, (Lit.int .i64 x).wf = true) :
    ∀ (d i : Nat) (s : ByteArray), i + d = l.length → s.size + total blankB ((l.drop i).map tup) ≤ 9223372036854775807 → (0 < i → 0 < s.size) → (i = 0 → s = ⟨#[]⟩) →
    Ev (fun k => spec_FormatTuples.l0 k l s (i : Int)) (if i + d = 0 then none_ else jn blankB (decide (0 < i)) s ((l.drop i).map tup)) := by
  have c1 : (⟨#[32]⟩ : ByteArray).size = 1 := rfl
  have cc : blankB.size = 1 := rfl
  intro d
  induction d with
  | zero =>
    intro i s hi hs hp h0
    obtain rfl : i = l.length := by omega
    refine Ev.step (fun k => by rw [spec_FormatTuples.l0]) (Ev.neg (by omega) ?_)
    by_cases hz : l.length = 0
    · have := h0 hz; subst this
      refine Ev.pos ?_ (Ev.const ?_)
      · simp
      · rw [if_pos (by omega)]; rfl
    · refine Ev.neg (not_nil (hp (by omega))) (Ev.const ?_)
      rw [if_neg (by omega)]; simp [jn]
  | succ d ih =>
    intro i s hi hs hp h0
    have hlt : i < l.length := by omega
    have hwi := tuple_ev _ (Nat.le_trans (hb _ (List.getElem_mem hlt)) (by omega)) (hw _ (List.getElem_mem hlt))
    have ht := tup_pos l[i]
    rw [drop_cons hlt] at hs ⊢
    simp only [List.map_cons, total] at hs
    have e : rd_L2 l (i : Int) = l[i] := by rw [rd_L2]; exact getD_nat _ _ _ hlt
    refine Ev.step (fun k => by rw [spec_FormatTuples.l0]) (Ev.pos (by omega) ?_)
    rw [e, inc (by omega), if_neg (by omega)]
    by_cases hi0 : 0 < i
    · refine Ev.pos (by omega) (Ev.pos (by omega) (Ev.pos (by omega) (Ev.bind hwi (Ev.pos (by rw [ByteArray.size_append]; omega) ?_))))
      refine Ev.eq (ih (i + 1) _ (by omega) (by simp only [ByteArray.size_append]; omega) (by simp only [ByteArray.size_append]; omega) (by omega)) rfl ?_
      rw [if_neg (by omega), List.map_cons, jn, decide_eq_true (show 0 < i + 1 by omega), decide_eq_true hi0]; rfl
    · obtain rfl : i = 0 := by omega
      refine Ev.neg (by omega) (Ev.pos (by omega) (Ev.bind hwi (Ev.pos (by omega) ?_)))
      refine Ev.eq (ih (0 + 1) _ (by omega) (by simp only [ByteArray.size_append]; omega) (by simp only [ByteArray.size_append]; omega) (by omega)) rfl ?_
      rw [if_neg (by omega), List.map_cons, jn]; rfl
theorem spec_tuples (l : List (List Int)) (hl : l.length + tot l ≤ 1048576) (hw : ∀ v ∈ l, ∀ x ∈ v, (Lit.int .i64 x).wf = true) : Ev (fun k => spec_FormatTuples.f k l) (orNone (l.map tup)) := by
  have e0 : (⟨#[]⟩ : ByteArray).size = 0 := rfl
  have ht := total_tup l
  refine Ev.eq (spec_tuples_loop l (by omega) (fun x hx => by have := tot_mem hx; omega) hw l.length 0 ⟨#[]⟩ (by omega) (by rw [List.drop_zero]; omega) (by omega) (fun _ => rfl)) (by funext k; rw [spec_FormatTuples.f]; rfl) ?_
  rw [orNone, List.length_map]; simp
theorem impl_tuples_loop (l : List (List Int)) (hl : l.length + tot l ≤ 1048576) (hw : ∀ v ∈ l, ∀ x ∈ v, (Lit.int .i64 x).wf = true) :
    ∀ (d i : Nat), i + d = l.length → Ev (fun k => impl_FormatTuples.l0 k ((l.take i).map tup) l (l.length : Int) (i : Int)) (orNone (l.map tup)) := by
  intro d
  induction d with
  | zero =>
    intro i hi
    obtain rfl : i = l.length := by omega
    refine Ev.step (fun k => by rw [impl_FormatTuples.l0]) (Ev.neg (by omega) ?_)
    rw [List.take_length]
    have ht := total_tup l
    exact Ev.last (f := fun x => x) (orNone_ev (l.map tup) (by simp; omega) (by omega))
  | succ d ih =>
    intro i hi
    have hlt : i < l.length := by omega
    have hm := tot_mem (List.getElem_mem hlt)
    have e : rd_L2 l (i : Int) = l[i] := by rw [rd_L2]; exact getD_nat _ _ _ hlt
    have c0 : (⟨#[40]⟩ : ByteArray).size = 1 := rfl
    have hs := nums_size l[i]
    refine Ev.step (fun k => by rw [impl_FormatTuples.l0]) (Ev.pos (by omega) (Ev.pos (by omega) (Ev.pos (by omega) ?_)))
    rw [e, inc (by omega)]
    refine Ev.bind (numbers_ev l[i] (by omega) (hw _ (List.getElem_mem hlt))) (Ev.pos (by omega) (Ev.pos (by rw [ByteArray.size_append]; omega) (Ev.pos (by simp; omega) ?_)))
    refine Ev.eq (ih (i + 1) (by omega)) ?_ rfl
    funext k
    rw [take_snoc hlt, List.map_append]; rfl
theorem impl_tuples (l : List (List Int)) (hl : l.length + tot l ≤ 1048576) (hw : ∀ v ∈ l, ∀ x ∈ v, (Lit.int .i64 x).wf = true) : Ev (fun k => impl_FormatTuples.f k l) (orNone (l.map tup)) :=
  Ev.eq (impl_tuples_loop l hl hw l.length 0 (by omega)) (by funext k; rw [impl_FormatTuples.f]; rfl) rfl
end Go.Proofs.Ytcneohelnfcbbaa.PTup
