/- Tuples with their counts as texts: the reference's and the program's FormatCounts come to the same text. Conditions: bounds on lengths. -/
import Derived.Test.YtcneohelnfcbbaaPx5
import Derived.Test.YtcneohelnfcbbaaPx6
import Derived.Test.YtcneohelnfcbbaaPTup
namespace Go.Proofs.Ytcneohelnfcbbaa.PCnt
open Go.RowKit Go.Proofs.Ytcneohelnfcbbaa.P Go.Proofs.YtcneohelnfcbbaaW.PrintWords Go.Proofs.YtcneohelnfcbbaaW.PrintLast Go.Proofs.Ytcneohelnfcbbaa.PB Go.Proofs.Ytcneohelnfcbbaa.PNum Go.Proofs.Ytcneohelnfcbbaa.PJoin Go.Proofs.Ytcneohelnfcbbaa.PTup
set_option linter.unusedVariables false

def cnt (c : S80) : ByteArray := (tup c.f0 ++ (⟨#[120]⟩ : ByteArray)) ++ fmt c.f1
theorem cnt_size (c : S80) : (cnt c).size ≤ 22 * c.f0.length + 24 := by
  have h1 := tup_size c.f0; have h2 := fmt_size c.f1
  have e2 : (⟨#[120]⟩ : ByteArray).size = 1 := rfl
  unfold cnt; simp only [ByteArray.size_append]; omega
theorem cnt_pos (c : S80) : 2 ≤ (cnt c).size := by
  have h1 := tup_pos c.f0
  unfold cnt; simp only [ByteArray.size_append]; omega
theorem rdC (l : List S80) (i : Nat) (h : i < l.length) : rd_T80 l (i : Int) = l[i] := by rw [rd_T80]; exact getD_nat _ _ _ h
theorem total_cnt (l : List S80) (hb : ∀ c ∈ l, c.f0.length ≤ 1048576) : total blankB (l.map cnt) ≤ l.length * 25000000 := by
  have h := total_map blankB cnt (22 * 1048576 + 24) l (fun c hc => by have := cnt_size c; have := hb c hc; omega)
  have e : blankB.size = 1 := rfl
  rw [e] at h
  exact Nat.le_trans h (Nat.mul_le_mul_left _ (by omega))
theorem spec_counts_loop (l : List S80) (hl : l.length ≤ 1048576) (hb : ∀ c ∈ l, c.f0.length ≤ 1048576 ∧ (∀ x ∈ c.f0, (Lit.int .i64 x).wf = true) ∧ (Lit.int .i64 c.f1).wf = true) :
    ∀ (d i : Nat) (s : ByteArray), i + d = l.length → s.size + total blankB ((l.drop i).map cnt) ≤ 9223372036854775000 → (0 < i → 0 < s.size) → (i = 0 → s = ⟨#[]⟩) →
    Ev (fun k => spec_FormatCounts.l0 k l s (i : Int)) (if i + d = 0 then none_ else jn blankB (decide (0 < i)) s ((l.drop i).map cnt)) := by
  have c1 : (⟨#[32]⟩ : ByteArray).size = 1 := rfl
  have c2 : (⟨#[120]⟩ : ByteArray).size = 1 := rfl
  have cc : blankB.size = 1 := rfl
  intro d
  induction d with
  | zero =>
    intro i s hi hs hp h0
    obtain rfl : i = l.length := by omega
    refine Ev.step (fun k => by rw [spec_FormatCounts.l0]) (Ev.neg (by omega) ?_)
    by_cases hz : l.length = 0
    · have := h0 hz; subst this
      refine Ev.pos ?_ (Ev.const ?_)
      · simp
      · rw [if_pos (by omega)]; rfl
    · refine Ev.neg (not_nil (hp (by omega))) (Ev.const ?_)
      rw [if_neg (by omega)]; simp [jn]
  | succ d ih =>
    intro i s hi hs hp h0
    have hlt : i < l.length := by omega
    have hm := hb _ (List.getElem_mem hlt)
    have hwi := tuple_ev _ (Nat.le_trans hm.1 (by omega)) hm.2.1
    have hwf := spec_ev hm.2.2
    have ht := cnt_pos l[i]
    have hts := tup_size (l[i]).f0
    have hfs := fmt_size (l[i]).f1
    have hcs : (cnt l[i]).size = (tup (l[i]).f0).size + 1 + (fmt (l[i]).f1).size := by unfold cnt; simp only [ByteArray.size_append]; rfl
    rw [drop_cons hlt] at hs ⊢
    simp only [List.map_cons, total] at hs
    refine Ev.step (fun k => by rw [spec_FormatCounts.l0]) (Ev.pos (by omega) ?_)
    rw [rdC _ _ hlt, inc (by omega), if_neg (by omega)]
    by_cases hi0 : 0 < i
    · refine Ev.pos (by omega) (Ev.pos (by omega) (Ev.pos (by omega) (Ev.bind hwi (Ev.pos (by simp only [ByteArray.size_append]; omega) (Ev.pos (by simp only [ByteArray.size_append]; omega) (Ev.bind hwf (Ev.pos (by simp only [ByteArray.size_append]; omega) ?_)))))))
      refine Ev.eq (ih (i + 1) _ (by omega) (by simp only [ByteArray.size_append]; omega) (by simp only [ByteArray.size_append]; omega) (by omega)) rfl ?_
      rw [if_neg (by omega), List.map_cons, jn, decide_eq_true (show 0 < i + 1 by omega), decide_eq_true hi0]
      have e : ((s ++ (⟨#[32]⟩ : ByteArray)) ++ tup (l[i]).f0) ++ (⟨#[120]⟩ : ByteArray) ++ fmt (l[i]).f1 = (s ++ blankB) ++ cnt l[i] := by simp [cnt, ba_assoc, blankB]
      rw [e]; rfl
    · obtain rfl : i = 0 := by omega
      refine Ev.neg (by omega) (Ev.pos (by omega) (Ev.bind hwi (Ev.pos (by omega) (Ev.pos (by simp only [ByteArray.size_append]; omega) (Ev.bind hwf (Ev.pos (by simp only [ByteArray.size_append]; omega) ?_))))))
      refine Ev.eq (ih (0 + 1) _ (by omega) (by simp only [ByteArray.size_append]; omega) (by simp only [ByteArray.size_append]; omega) (by omega)) rfl ?_
      rw [if_neg (by omega), List.map_cons, jn]
      have e : (s ++ tup (l[0]).f0) ++ (⟨#[120]⟩ : ByteArray) ++ fmt (l[0]).f1 = s ++ cnt l[0] := by simp [cnt, ba_assoc]
      rw [e]; rfl
theorem spec_counts (l : List S80) (hl : l.length ≤ 1048576) (hb : ∀ c ∈ l, c.f0.length ≤ 1048576 ∧ (∀ x ∈ c.f0, (Lit.int .i64 x).wf = true) ∧ (Lit.int .i64 c.f1).wf = true) : Ev (fun k => spec_FormatCounts.f k l) (orNone (l.map cnt)) := by
  have e0 : (⟨#[]⟩ : ByteArray).size = 0 := rfl
  have ht := total_cnt l (fun c hc => (hb c hc).1)
  refine Ev.eq (spec_counts_loop l hl hb l.length 0 ⟨#[]⟩ (by omega) (by rw [List.drop_zero]; omega) (by omega) (fun _ => rfl)) (by funext k; rw [spec_FormatCounts.f]; rfl) ?_
  rw [orNone, List.length_map]; simp
theorem impl_counts (l : List S80) (hl : l.length ≤ 1048576) (hb : ∀ c ∈ l, c.f0.length ≤ 1048576 ∧ (∀ x ∈ c.f0, (Lit.int .i64 x).wf = true) ∧ (Lit.int .i64 c.f1).wf = true) : Ev (fun k => impl_FormatCounts.f k l) (orNone (l.map cnt)) := by
  have loop : ∀ (d i : Nat), i + d = l.length → Ev (fun k => impl_FormatCounts.l0 k ((l.take i).map cnt) l (l.length : Int) (i : Int)) (orNone (l.map cnt)) := by
    intro d
    induction d with
    | zero =>
      intro i hi
      obtain rfl : i = l.length := by omega
      refine Ev.step (fun k => by rw [impl_FormatCounts.l0]) (Ev.neg (by omega) ?_)
      rw [List.take_length]
      have ht := total_cnt l (fun c hc => (hb c hc).1)
      exact Ev.last (f := fun x => x) (orNone_ev (l.map cnt) (by simp; omega) (by omega))
    | succ d ih =>
      intro i hi
      have hlt : i < l.length := by omega
      have hm := hb _ (List.getElem_mem hlt)
      have c0 : (⟨#[40]⟩ : ByteArray).size = 1 := rfl
      have c3 : (⟨#[41, 120]⟩ : ByteArray).size = 2 := rfl
      have hs := nums_size (l[i]).f0
      have hf := fmt_size (l[i]).f1
      refine Ev.step (fun k => by rw [impl_FormatCounts.l0]) (Ev.pos (by omega) (Ev.pos (by omega) (Ev.pos (by omega) ?_)))
      rw [rdC _ _ hlt, inc (by omega)]
      refine Ev.bind (numbers_ev (l[i]).f0 (by omega) hm.2.1) (Ev.pos (by omega) (Ev.pos (by simp only [ByteArray.size_append]; omega) (Ev.bind (impl_ev hm.2.2) (Ev.pos (by simp only [ByteArray.size_append]; omega) (Ev.pos (by simp; omega) ?_)))))
      refine Ev.eq (ih (i + 1) (by omega)) ?_ rfl
      funext k
      have e : (((⟨#[40]⟩ : ByteArray) ++ nums_ (l[i]).f0) ++ (⟨#[41, 120]⟩ : ByteArray)) ++ fmt (l[i]).f1 = cnt l[i] := by
        have e3 : (⟨#[41, 120]⟩ : ByteArray) = (⟨#[41]⟩ : ByteArray) ++ (⟨#[120]⟩ : ByteArray) := rfl
        rw [e3]; simp [cnt, tup, ba_assoc]
      rw [e, take_snoc hlt, List.map_append]; rfl
  exact Ev.eq (loop l.length 0 (by omega)) (by funext k; rw [impl_FormatCounts.f]; rfl) rfl
end Go.Proofs.Ytcneohelnfcbbaa.PCnt
