/- Out of YtcneohelnfcbbaaPFits: what the claim needs of it. Conditions: each declaration's own. -/
import Derived.Test.YtcneohelnfcbbaaZMayPx10
import Derived.Test.YtcneohelnfcbbaaZMayPx11
import Derived.Test.YtcneohelnfcbbaaZMayPx12
import Derived.Test.YtcneohelnfcbbaaZMayPx9
import Derived.Test.YtcneohelnfcbbaaZMayPIn
namespace Go.Proofs.Ytcneohelnfcbbaa.PFits
open Go.RowKit Go.Proofs.Ytcneohelnfcbbaa.P Go.Proofs.YtcneohelnfcbbaaW.PrintWords Go.Proofs.YtcneohelnfcbbaaW.PrintLast Go.Proofs.Ytcneohelnfcbbaa.PB Go.Proofs.Ytcneohelnfcbbaa.PIn
set_option linter.unusedVariables false

theorem spec_var (t : Int) : spec_IsVar.f t = some (inr t 0 19) := by unfold spec_IsVar.f; rw [spec_in]; rfl
theorem impl_var (t : Int) : impl_IsVar.f t = some (inr t 0 19) := by unfold impl_IsVar.f; rw [impl_in]; rfl
theorem impl_term (t : Int) : impl_IsTerm.f t = some (inr t (-80) 19) := by unfold impl_IsTerm.f; rw [impl_in]; rfl
/-- The number of a constant, or -1. -/
def cst (t : Int) : Int := if inr t (-80) (-1) = true then -1 - t else -1
theorem spec_cst (t : Int) : spec_ConstOf.f t = some (cst t) := by
  unfold spec_ConstOf.f cst; rw [spec_in]; simp only [Option.bind_some]
  by_cases h : inr t (-80) (-1) = true
  · have h' : -80 ≤ t ∧ t ≤ -1 := by simpa [inr] using h
    rw [if_pos h, if_pos h, w64 (by omega) (by omega)]
  · rw [if_neg h, if_neg h]
theorem impl_cst (t : Int) : impl_ConstOf.f t = some (cst t) := by
  unfold impl_ConstOf.f cst; rw [impl_term, impl_var]; simp only [Option.bind_some]
  by_cases h : -80 ≤ t ∧ t ≤ 19
  · rw [if_pos (by simpa [inr] using h)]
    by_cases h2 : 0 ≤ t
    · rw [if_pos (by simp [inr]; omega), if_neg (by simp [inr]; omega)]
    · rw [if_neg (by simp [inr]; omega), if_pos (by simp [inr]; omega), w64 (by omega) (by omega)]
  · rw [if_neg (by simpa [inr] using h), if_neg (by simp [inr]; omega)]
theorem spec_term (t : Int) : spec_IsTerm.f t = some (inr t (-80) 19) := by
  unfold spec_IsTerm.f; rw [spec_var, spec_cst]; simp only [Option.bind_some]
  by_cases h2 : 0 ≤ t ∧ t ≤ 19
  · rw [if_pos (by simpa [inr] using h2)]; congr 1; unfold inr; symm; rw [decide_eq_true_eq]; omega
  · rw [if_neg (by simpa [inr] using h2)]
    by_cases h : -80 ≤ t ∧ t ≤ -1
    · have e : cst t = -1 - t := by rw [cst, if_pos (by simpa [inr] using h)]
      rw [e]; congr 1; unfold inr; rw [decide_eq_decide]; omega
    · have e : cst t = -1 := by rw [cst, if_neg (by simpa [inr] using h)]
      rw [e]; congr 1; unfold inr; rw [decide_eq_decide]; omega
/-- A term that can't become a value. -/
def bad (t f : Int) : Bool := if inr t 0 19 = true then false else if inr t (-80) 19 = true then (-1 - t != f) else true
/-- An equal term ahead of place i that would become another value. -/
def cfr (aa fa : List Int) (i : Nat) : Nat → Nat → Bool
  | _, 0 => false
  | j, d + 1 => if aa.getD j 0 = aa.getD i 0 then (if fa.getD j 0 = fa.getD i 0 then cfr aa fa i (j + 1) d else true) else cfr aa fa i (j + 1) d
def scan (aa fa : List Int) : Nat → Nat → Bool
  | _, 0 => true
  | i, d + 1 => if bad (aa.getD i 0) (fa.getD i 0) = true then false else if cfr aa fa i 0 i = true then false else scan aa fa (i + 1) d
def fits (ar : Int) (aa : List Int) (fr : Int) (fa : List Int) : Bool := if ar = fr then (if aa.length = fa.length then scan aa fa 0 aa.length else false) else false
theorem rd_d (xs : List Int) (i : Nat) : rd xs (i : Int) = xs.getD i 0 := by unfold rd; simp

theorem spec_inner (ar fr : Int) (aa fa : List Int) (hl : aa.length = fa.length) (hb : aa.length ≤ 1048576) (i : Nat) (hi : i < aa.length) (r : Bool) (hn : Ev (fun k => spec_l19Fits.l0 k ((i + 1 : Nat) : Int) ar aa fr fa) r) :
    ∀ (d j : Nat), j + d = i → Ev (fun k => spec_l19Fits.l1 k (i : Int) (j : Int) ar aa fr fa) (if cfr aa fa i j d = true then false else r) := by
  intro d
  induction d with
  | zero =>
    intro j hj
    refine Ev.step (fun k => by rw [spec_l19Fits.l1]) (Ev.neg (by omega) ?_)
    rw [inc (by omega)]; simpa [cfr] using hn
  | succ d ih =>
    intro j hj
    refine Ev.step (fun k => by rw [spec_l19Fits.l1]) (Ev.pos (by omega) (Ev.pos (by omega) (Ev.pos (by omega) (Ev.pos (by omega) (Ev.pos (by omega) ?_)))))
    rw [rd_d, rd_d, rd_d, rd_d, inc (by omega), cfr]
    by_cases h : aa.getD j 0 = aa.getD i 0
    · refine Ev.pos h (Ev.pos (by omega) (Ev.pos (by omega) ?_))
      rw [if_pos h]
      by_cases h2 : fa.getD j 0 = fa.getD i 0
      · rw [if_pos h2]; exact Ev.pos h2 (ih (j + 1) (by omega))
      · rw [if_neg h2]; exact Ev.neg h2 (Ev.const (by simp))
    · rw [if_neg h]; exact Ev.neg h (ih (j + 1) (by omega))
theorem spec_outer (ar fr : Int) (aa fa : List Int) (hl : aa.length = fa.length) (hb : aa.length ≤ 1048576) (ha : ∀ x ∈ aa, (Lit.int .i64 x).wf = true) : ∀ (d i : Nat), i + d = aa.length → Ev (fun k => spec_l19Fits.l0 k (i : Int) ar aa fr fa) (scan aa fa i d) := by
  intro d
  induction d with
  | zero =>
    intro i hi
    show Ev _ true
    exact Ev.step (fun k => by rw [spec_l19Fits.l0]) (Ev.neg (by omega) (Ev.const rfl))
  | succ d ih =>
    intro i hi
    refine Ev.step (fun k => by rw [spec_l19Fits.l0]) (Ev.pos (by omega) (Ev.pos (by omega) ?_))
    rw [rd_d, rd_d, scan]
    have hin := spec_inner ar fr aa fa hl hb i (by omega) _ (ih (i + 1) (by omega)) i 0 (by omega)
    refine Ev.bindc (spec_var _) ?_
    by_cases h1 : inr (aa.getD i 0) 0 19 = true
    · refine Ev.pos h1 (Ev.step (fun k => by rw [spec_l19Fits.j2]) (Ev.neg (by simp) ?_))
      rw [if_neg (by rw [bad, if_pos h1]; decide)]; exact hin
    · refine Ev.neg h1 (Ev.bindc (spec_term _) ?_)
      by_cases h2 : inr (aa.getD i 0) (-80) 19 = true
      · have h2' : -80 ≤ aa.getD i 0 ∧ aa.getD i 0 ≤ 19 := by simpa only [inr, decide_eq_true_eq] using h2
        refine Ev.pos h2 (Ev.pos (by omega) (Ev.step (fun k => by rw [spec_l19Fits.j2]) ?_))
        rw [w64 (by omega) (by omega)]
        have e : bad (aa.getD i 0) (fa.getD i 0) = (-1 - aa.getD i 0 != fa.getD i 0) := by rw [bad, if_neg h1, if_pos h2]
        rw [e]
        by_cases h3 : (-1 - aa.getD i 0 != fa.getD i 0) = true
        · rw [if_pos h3]; exact Ev.pos h3 (Ev.const rfl)
        · rw [if_neg h3]; exact Ev.neg h3 hin
      · refine Ev.neg h2 (Ev.step (fun k => by rw [spec_l19Fits.j2]) (Ev.pos rfl (Ev.const ?_)))
        rw [if_pos (by rw [bad, if_neg h1, if_neg h2])]
theorem spec_fits (ar fr : Int) (aa fa : List Int) (hb : aa.length ≤ 1048576) (ha : ∀ x ∈ aa, (Lit.int .i64 x).wf = true) : Ev (fun k => spec_l19Fits.f k ar aa fr fa) (fits ar aa fr fa) := by
  unfold spec_l19Fits.f fits
  by_cases h : ar = fr
  · rw [if_pos h]; refine Ev.pos h (Ev.step (fun k => by rw [spec_l19Fits.j0]) ?_)
    by_cases h2 : aa.length = fa.length
    · rw [if_pos h2]; refine Ev.neg (by simp; omega) ?_
      exact spec_outer ar fr aa fa h2 hb ha aa.length 0 (by omega)
    · rw [if_neg h2]; exact Ev.pos (by simp; omega) (Ev.const rfl)
  · rw [if_neg h]; exact Ev.neg h (Ev.step (fun k => by rw [spec_l19Fits.j0]) (Ev.pos rfl (Ev.const rfl)))

theorem impl_inner (ar fr : Int) (aa fa : List Int) (hl : aa.length = fa.length) (hb : aa.length ≤ 1048576) (i : Nat) (hi : i < aa.length) (r : Bool) (hn : Ev (fun k => impl_canBe.l0 k aa (aa.length : Int) ((i + 1 : Nat) : Int) ar aa fr fa) r) :
    ∀ (d j : Nat), j + d = i → Ev (fun k => impl_canBe.l1 k (i : Int) (aa.getD i 0) aa (aa.length : Int) (i : Int) (aa.take i) (i : Int) (j : Int) ar aa fr fa) (if cfr aa fa i j d = true then false else r) := by
  have tl : (aa.take i).length = i := by simp; omega
  intro d
  induction d with
  | zero =>
    intro j hj
    refine Ev.step (fun k => by rw [impl_canBe.l1]) (Ev.neg (by omega) ?_)
    rw [inc (by omega)]; simpa [cfr] using hn
  | succ d ih =>
    intro j hj
    have e : rd (aa.take i) (j : Int) = aa.getD j 0 := by
      rw [rd_d, List.getD_eq_getElem?_getD, List.getElem?_take_of_lt (by omega), ← List.getD_eq_getElem?_getD]
    refine Ev.step (fun k => by rw [impl_canBe.l1]) (Ev.pos (by omega) (Ev.pos (by omega) (Ev.pos (by omega) ?_)))
    rw [e, rd_d, rd_d, inc (by omega), cfr]
    by_cases h : aa.getD j 0 = aa.getD i 0
    · refine Ev.pos h.symm (Ev.pos (by omega) (Ev.pos (by omega) (Ev.pos (by omega) ?_)))
      rw [if_pos h]
      by_cases h2 : fa.getD j 0 = fa.getD i 0
      · rw [if_pos h2]; exact Ev.pos h2.symm (ih (j + 1) (by omega))
      · rw [if_neg h2]; exact Ev.neg (fun h => h2 h.symm) (Ev.const (by simp))
    · rw [if_neg h]; exact Ev.neg (fun h' => h h'.symm) (ih (j + 1) (by omega))
theorem impl_outer (ar fr : Int) (aa fa : List Int) (hl : aa.length = fa.length) (hb : aa.length ≤ 1048576) : ∀ (d i : Nat), i + d = aa.length → Ev (fun k => impl_canBe.l0 k aa (aa.length : Int) (i : Int) ar aa fr fa) (scan aa fa i d) := by
  intro d
  induction d with
  | zero =>
    intro i hi
    show Ev _ true
    exact Ev.step (fun k => by rw [impl_canBe.l0]) (Ev.neg (by omega) (Ev.const rfl))
  | succ d ih =>
    intro i hi
    refine Ev.step (fun k => by rw [impl_canBe.l0]) (Ev.pos (by omega) (Ev.pos (by omega) (Ev.pos (by omega) ?_)))
    rw [rd_d, rd_d, scan]
    have tl : (aa.take i).length = i := by simp; omega
    have e0 : ((i : Int)).toNat = i := by omega
    have hin := impl_inner ar fr aa fa hl hb i (by omega) _ (ih (i + 1) (by omega)) i 0 (by omega)
    have key : ∀ b : Bool, bad (aa.getD i 0) (fa.getD i 0) = b → Ev (fun k => impl_canBe.j2 k (i : Int) (aa.getD i 0) aa (aa.length : Int) (i : Int) b ar aa fr fa) (if bad (aa.getD i 0) (fa.getD i 0) = true then false else if cfr aa fa i 0 i = true then false else scan aa fa (i + 1) d) := by
      intro b hb'
      rw [hb']
      refine Ev.step (fun k => by rw [impl_canBe.j2]) ?_
      cases b with
      | true => exact Ev.pos rfl (Ev.const rfl)
      | false =>
        refine Ev.neg (by simp) (Ev.pos (by omega) (Ev.pos (by omega) ?_))
        rw [e0, tl, if_neg (by simp)]; exact hin
    refine Ev.bindc (impl_var _) ?_
    by_cases h1 : inr (aa.getD i 0) 0 19 = true
    · exact Ev.pos h1 (key false (by rw [bad, if_pos h1]))
    · refine Ev.neg h1 (Ev.bindc (impl_cst _) ?_)
      have h1' : ¬ (0 ≤ aa.getD i 0 ∧ aa.getD i 0 ≤ 19) := by simpa only [inr, decide_eq_true_eq] using h1
      by_cases h2 : -80 ≤ aa.getD i 0 ∧ aa.getD i 0 ≤ -1
      · have e : cst (aa.getD i 0) = -1 - aa.getD i 0 := by rw [cst, if_pos (by simpa only [inr, decide_eq_true_eq] using h2)]
        rw [e]
        refine Ev.neg (by omega) (Ev.bindc (impl_cst _) (Ev.pos (by omega) ?_))
        rw [e]
        exact key _ (by rw [bad, if_neg h1, if_pos (by simp only [inr, decide_eq_true_eq]; omega)])
      · have e : cst (aa.getD i 0) = -1 := by rw [cst, if_neg (by simpa only [inr, decide_eq_true_eq] using h2)]
        rw [e]
        exact Ev.pos (by omega) (key true (by rw [bad, if_neg h1, if_neg (by simp only [inr, decide_eq_true_eq]; omega)]))
theorem impl_fits (ar fr : Int) (aa fa : List Int) (hb : aa.length ≤ 1048576) : Ev (fun k => impl_canBe.f k ar aa fr fa) (fits ar aa fr fa) := by
  unfold impl_canBe.f fits
  by_cases h : ar = fr
  · rw [if_pos h]; refine Ev.pos h (Ev.step (fun k => by rw [impl_canBe.j0]) ?_)
    by_cases h2 : aa.length = fa.length
    · rw [if_pos h2]; refine Ev.neg (by simp; omega) ?_
      exact impl_outer ar fr aa fa h2 hb aa.length 0 (by omega)
    · rw [if_neg h2]; exact Ev.pos (by simp; omega) (Ev.const rfl)
  · rw [if_neg h]; exact Ev.neg h (Ev.step (fun k => by rw [impl_canBe.j0]) (Ev.pos rfl (Ev.const rfl)))
def may (body : List S86) (fr : Int) (fa : List Int) : Bool := body.any fun a => fits a.f0 a.f1 fr fa
theorem rdT (l : List S86) (i : Nat) (h : i < l.length) : rd_T86 l (i : Int) = l[i] := by rw [rd_T86]; exact getD_nat _ _ _ h
theorem spec_may (head : List Int) (body : List S86) (fr : Int) (fa : List Int) (hb : body.length ≤ 1048576) (ha : ∀ a ∈ body, a.f1.length ≤ 1048576 ∧ ∀ x ∈ a.f1, (Lit.int .i64 x).wf = true) :
    Ev (fun k => spec_MayAffect.f k head body fr fa) (may body fr fa) := by
  have loop : ∀ (d i : Nat), i + d = body.length → Ev (fun k => spec_MayAffect.l0 k (i : Int) head body fr fa) (may (body.drop i) fr fa) := by
    intro d
    induction d with
    | zero =>
      intro i hi
      obtain rfl : i = body.length := by omega
      exact Ev.step (fun k => by rw [spec_MayAffect.l0]) (Ev.neg (by omega) (Ev.const (by simp [may])))
    | succ d ih =>
      intro i hi
      have hlt : i < body.length := by omega
      have hx := ha _ (List.getElem_mem hlt)
      refine Ev.step (fun k => by rw [spec_MayAffect.l0]) (Ev.pos (by omega) (Ev.pos (by omega) ?_))
      rw [rdT _ _ hlt, inc (by omega), drop_cons hlt]
      refine Ev.bind (spec_fits _ fr _ fa hx.1 hx.2) ?_
      by_cases h : fits (body[i]).f0 (body[i]).f1 fr fa = true
      · exact Ev.pos h (Ev.const (by simp [may, h, -List.getElem_cons_drop]))
      · exact Ev.neg h (Ev.eq (ih (i + 1) (by omega)) rfl (by simp [may, h, -List.getElem_cons_drop]))
  exact Ev.eq (loop body.length 0 (by omega)) (by funext k; rw [spec_MayAffect.f]; rfl) (by simp)
theorem impl_may (head : List Int) (body : List S86) (fr : Int) (fa : List Int) (hb : body.length ≤ 1048576) (ha : ∀ a ∈ body, a.f1.length ≤ 1048576) :
    Ev (fun k => impl_MayAffect.f k head body fr fa) (may body fr fa) := by
  have loop : ∀ (d i : Nat), i + d = body.length → Ev (fun k => impl_MayAffect.l0 k body (body.length : Int) (i : Int) fr fa) (may (body.drop i) fr fa) := by
    intro d
    induction d with
    | zero =>
      intro i hi
      obtain rfl : i = body.length := by omega
      exact Ev.step (fun k => by rw [impl_MayAffect.l0]) (Ev.neg (by omega) (Ev.const (by simp [may])))
    | succ d ih =>
      intro i hi
      have hlt : i < body.length := by omega
      have hx := ha _ (List.getElem_mem hlt)
      refine Ev.step (fun k => by rw [impl_MayAffect.l0]) (Ev.pos (by omega) (Ev.pos (by omega) (Ev.pos (by omega) ?_)))
      rw [rdT _ _ hlt, inc (by omega), drop_cons hlt]
      refine Ev.bind (impl_fits _ fr _ fa hx) ?_
      by_cases h : fits (body[i]).f0 (body[i]).f1 fr fa = true
      · exact Ev.pos h (Ev.const (by simp [may, h, -List.getElem_cons_drop]))
      · exact Ev.neg h (Ev.eq (ih (i + 1) (by omega)) rfl (by simp [may, h, -List.getElem_cons_drop]))
  exact Ev.eq (loop body.length 0 (by omega)) (by funext k; rw [impl_MayAffect.f]; rfl) (by simp)
end Go.Proofs.Ytcneohelnfcbbaa.PFits

