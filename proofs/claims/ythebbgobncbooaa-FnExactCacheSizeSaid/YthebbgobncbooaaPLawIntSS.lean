/- The laws' own helpers over IntSS: sizes (sz..), copies (to..), comparisons (eq..): what each comes to. Conditions: bounds on lengths. -/
import Derived.Test.YthebbgobncbooaaPx0
import Derived.Test.YthebbgobncbooaaPx14
import Derived.Test.YthebbgobncbooaaPx15
import Derived.Test.YthebbgobncbooaaPx17
import Derived.Test.YthebbgobncbooaaPBase
import Derived.Test.YthebbgobncbooaaPLawIntS
namespace Go.Proofs.Ythebbgobncbooaa.PLaw
open Go.RowKit Go.Proofs.Ythebbgobncbooaa.P Go.Proofs.YthebbgobncbooaaW.PrintWords Go.Proofs.YthebbgobncbooaaW.PrintLast Go.Proofs.Ythebbgobncbooaa.PB
set_option linter.unusedVariables false

def qIntSS (l : List (List Int)) : Prop := l.length ≤ 9223372036854775807 ∧ ∀ x ∈ l, qIntS x
def nIntSS (l : List (List Int)) : Nat := l.length + tsum nIntS l
def cIntSS (l : List (List Int)) : List (List Int) := l.map cIntS
def mIntSS (l : List (List Int)) : Prop := l.length ≤ 4611686018427387000 ∧ ∀ x ∈ l, x.length ≤ 4611686018427387000
theorem szIntSS_loop (l : List (List Int)) (hl : l.length ≤ 1048576) (hb : ∀ x ∈ l, qIntS x) : ∀ (d i : Nat) (a : Int), i + d = l.length → 0 ≤ a → a ≤ 1048576 →
    Ev (fun k => laws_szIntSS.l0 k l a (i : Int)) (if a < tsum nIntS (l.drop i) then -1 else a - tsum nIntS (l.drop i)) := by
  intro d
  induction d with
  | zero =>
    intro i a hi h0 h1
    obtain rfl : i = l.length := by omega
    refine Ev.step (fun k => by rw [laws_szIntSS.l0]) (Ev.neg (by omega) (Ev.const ?_))
    simp [tsum]; omega
  | succ d ih =>
    intro i a hi h0 h1
    have hlt : i < l.length := by omega
    rw [drop_cons hlt, tsum_cons]
    refine Ev.step (fun k => by rw [laws_szIntSS.l0]) (Ev.pos (by omega) (Ev.pos (by omega) ?_))
    have e : rd_L1 l (i : Int) = l[i] := by rw [rd_L1]; exact getD_nat _ _ _ hlt
    rw [e, inc (by omega)]
    refine Ev.bind (szIntS l[i] a h0 h1 (hb _ (List.getElem_mem hlt))) ?_
    by_cases h : a < nIntS l[i]
    · rw [if_pos (by first | exact h | (simp only [nIntS] at h; omega))]
      refine Ev.pos (by omega) (Ev.const ?_)
      rw [if_pos (by omega)]
    · rw [if_neg (by first | exact h | (simp only [nIntS] at h; omega))]
      refine Ev.neg (by first | omega | (simp only [nIntS] at h; omega)) (Ev.eq (ih (i + 1) _ (by omega) (by first | omega | (simp only [nIntS] at h; omega)) (by omega)) rfl ?_)
      by_cases h2 : a - nIntS l[i] < tsum nIntS (l.drop (i + 1))
      · rw [if_pos (by first | exact h2 | (simp only [nIntS] at h2 ⊢; omega)), if_pos (by omega)]
      · rw [if_neg (by first | exact h2 | (simp only [nIntS] at h2 ⊢; omega)), if_neg (by omega)]; first | omega | (simp only [nIntS]; omega)
theorem szIntSS (l : List (List Int)) (a : Int) (h0 : 0 ≤ a) (h1 : a ≤ 1048576) (hq : qIntSS l) : Ev (fun k => laws_szIntSS.f k l a) (if a < nIntSS l then -1 else a - nIntSS l) := by
  have hl1 := hq.1
  have hw : wrap64 (a - (l.length : Int)) = a - l.length := w64 (by omega) (by omega)
  unfold nIntSS
  by_cases h : a < l.length
  · refine Ev.eq (Ev.const (r := -1) rfl) ?_ (by rw [if_pos (by omega)])
    funext k
    rw [laws_szIntSS.f, hw, if_pos (by omega)]
  · refine Ev.eq (szIntSS_loop l (by omega) hq.2 l.length 0 (a - l.length) (by omega) (by omega) (by omega)) ?_ ?_
    · funext k
      rw [laws_szIntSS.f, hw, if_neg (by omega)]; rfl
    · rw [List.drop_zero]
      by_cases h2 : a - l.length < tsum nIntS l
      · rw [if_pos h2, if_pos (by omega)]
      · rw [if_neg h2, if_neg (by omega)]; omega
theorem toIntSS_loop (l : List (List Int)) (hn : nIntSS l ≤ 1048576) : ∀ (d i : Nat), i + d = l.length → Ev (fun k => laws_toIntSS.l0 k l (cIntSS (l.take i) ++ List.replicate d []) (i : Int)) (cIntSS l) := by
  have hlen : l.length ≤ 1048576 := by unfold nIntSS at hn; omega
  intro d
  induction d with
  | zero =>
    intro i hi
    obtain rfl : i = l.length := by omega
    refine Ev.step (fun k => by rw [laws_toIntSS.l0]) (Ev.neg (by omega) (Ev.const ?_))
    simp
  | succ d ih =>
    intro i hi
    have hlt : i < l.length := by omega
    refine Ev.step (fun k => by rw [laws_toIntSS.l0]) (Ev.pos (by omega) (Ev.pos (by omega) ?_))
    have e : rd_L1 l (i : Int) = l[i] := by rw [rd_L1]; exact getD_nat _ _ _ hlt
    rw [e, inc (by omega)]
    have hx : nIntS l[i] ≤ 1048576 := by have := tsum_mem nIntS (List.getElem_mem hlt); unfold nIntSS at hn; omega
    refine Ev.bind (toIntS l[i] hx) (Ev.pos (by simp [cIntSS]; omega) ?_)
    refine Ev.eq (ih (i + 1) (by omega)) ?_ rfl
    funext k
    have e : ((i : Int)).toNat = i := by omega
    have el : (cIntSS (l.take i)).length = i := by simp [cIntSS]; omega
    rw [e, fill_set' _ _ _ _ _ el, take_snoc hlt]
    rw [show cIntSS (l.take i ++ [l[i]]) = cIntSS (l.take i) ++ [cIntS l[i]] from List.map_append ..]
    try rfl
theorem toIntSS (l : List (List Int)) (hn : nIntSS l ≤ 1048576) : Ev (fun k => laws_toIntSS.f k l) (cIntSS l) := by
  have h := toIntSS_loop l hn l.length 0 (by omega)
  have hlen : l.length ≤ 1048576 := by unfold nIntSS at hn; omega
  refine Ev.eq (Ev.pos (c := 0 ≤ (l.length : Int)) (g := fun _ => none) (by omega) (Ev.pos (c := ((l.length : Int) : Int).toNat ≤ 11728124029610) (g := fun _ => none) (by omega) h)) ?_ rfl
  funext k
  rw [laws_toIntSS.f]; simp [cIntSS]
theorem eqIntSS_loop (l : List (List Int)) (hl : l.length ≤ 4611686018427387000) (hb : ∀ x ∈ l, x.length ≤ 4611686018427387000) : ∀ (d i : Nat), i + d = l.length → Ev (fun k => laws_eqIntSS.l0 k l l (i : Int)) true := by
  intro d
  induction d with
  | zero =>
    intro i hi
    exact Ev.step (fun k => by rw [laws_eqIntSS.l0]) (Ev.neg (by omega) (Ev.const rfl))
  | succ d ih =>
    intro i hi
    have hlt : i < l.length := by omega
    refine Ev.step (fun k => by rw [laws_eqIntSS.l0]) (Ev.pos (by omega) (Ev.pos (by omega) (Ev.pos (by omega) ?_)))
    have e : rd_L1 l (i : Int) = l[i] := by rw [rd_L1]; exact getD_nat _ _ _ hlt
    rw [e, inc (by omega)]
    exact Ev.bind (eqIntS l[i] (hb _ (List.getElem_mem hlt))) (Ev.pos rfl (ih (i + 1) (by omega)))
theorem eqIntSS (l : List (List Int)) (hm : mIntSS l) : Ev (fun k => laws_eqIntSS.f k l l) true :=
  Ev.eq (Ev.pos (c := (l.length : Int) = l.length) (g := fun _ => some false) rfl (eqIntSS_loop l hm.1 hm.2 l.length 0 (by omega))) (by funext k; rw [laws_eqIntSS.f]; rfl) rfl
theorem mcIntSS {l : List (List Int)} (hn : nIntSS l ≤ 1048576) : mIntSS (cIntSS l) := by
  unfold nIntSS at hn
  refine ⟨by simp [cIntSS]; omega, fun x hx => ?_⟩
  obtain ⟨y, hy, rfl⟩ := List.mem_map.1 hx
  have := tsum_mem nIntS hy
  exact mcIntS (by omega)
end Go.Proofs.Ythebbgobncbooaa.PLaw
