/- The laws' own helpers over Query: sizes (sz..), copies (to..), comparisons (eq..): what each comes to. Conditions: bounds on lengths. -/
import Derived.Test.YthebbgobncbooaaPx0
import Derived.Test.YthebbgobncbooaaPx14
import Derived.Test.YthebbgobncbooaaPx15
import Derived.Test.YthebbgobncbooaaPx16
import Derived.Test.YthebbgobncbooaaPx17
import Derived.Test.YthebbgobncbooaaPBase
import Derived.Test.YthebbgobncbooaaPLawAtom
import Derived.Test.YthebbgobncbooaaPLawIntS
namespace Go.Proofs.Ythebbgobncbooaa.PLaw
open Go.RowKit Go.Proofs.Ythebbgobncbooaa.P Go.Proofs.YthebbgobncbooaaW.PrintWords Go.Proofs.YthebbgobncbooaaW.PrintLast Go.Proofs.Ythebbgobncbooaa.PB
set_option linter.unusedVariables false

def qQuery (x : S89) : Prop := (qIntS x.f0) ∧ (qAtomS x.f1)
def nQuery (x : S89) : Nat := nIntS x.f0 + nAtomS x.f1
def cQuery (x : S89) : S96 := ⟨cIntS x.f0, cAtomS x.f1⟩
def qQueryS (l : List S89) : Prop := l.length ≤ 9223372036854775807 ∧ ∀ x ∈ l, qQuery x
def nQueryS (l : List S89) : Nat := l.length + tsum nQuery l
def cQueryS (l : List S89) : List S96 := l.map cQuery
def mQuery (x : S96) : Prop := (x.f0.length ≤ 4611686018427387000) ∧ (mAtomS x.f1)
def mQueryS (l : List S96) : Prop := l.length ≤ 4611686018427387000 ∧ ∀ x ∈ l, mQuery x
theorem szQuery (x0 : List Int) (x1 : List S197) (a : Int) (h0 : 0 ≤ a) (h1 : a ≤ 1048576) (qx0_ : qIntS x0) (qx1_ : qAtomS x1) : Ev (fun k => laws_szQuery.f k x0 x1 a) (if a < ((nIntS x0 + nAtomS x1 : Nat) : Int) then -1 else a - ((nIntS x0 + nAtomS x1 : Nat) : Int)) := by
  unfold laws_szQuery.f
  have g0 : a ≤ 1048576 := by first | omega | exact h1
  refine Ev.bind (szIntS x0 a (by omega) (by omega) qx0_) ?_
  by_cases c0 : a < ((nIntS x0 : Nat) : Int)
  · rw [if_pos c0]
    exact Ev.pos (by omega) (Ev.const (by first | rfl | rw [if_pos (by omega)]))
  rw [if_neg c0]
  refine Ev.neg (by omega) ?_
  have e0 : a - ((nIntS x0 : Nat) : Int) = (a - ((nIntS x0 : Nat) : Int)) := by omega
  rw [e0]
  have g1 : (a - ((nIntS x0 : Nat) : Int)) ≤ 1048576 := by first | omega | exact h1
  refine Ev.bind (szAtomS x1 (a - ((nIntS x0 : Nat) : Int)) (by omega) (by omega) qx1_) ?_
  by_cases c1 : (a - ((nIntS x0 : Nat) : Int)) < ((nAtomS x1 : Nat) : Int)
  · rw [if_pos c1]
    exact Ev.pos (by omega) (Ev.const (by first | rfl | rw [if_pos (by omega)]))
  rw [if_neg c1]
  refine Ev.neg (by omega) ?_
  have e1 : (a - ((nIntS x0 : Nat) : Int)) - ((nAtomS x1 : Nat) : Int) = (a - ((nIntS x0 + nAtomS x1 : Nat) : Int)) := by omega
  rw [e1]
  exact Ev.const (by first | rfl | rw [if_neg (by omega)])
theorem szQueryS_loop (l : List S89) (hl : l.length ≤ 1048576) (hb : ∀ x ∈ l, qQuery x) : ∀ (d i : Nat) (a : Int), i + d = l.length → 0 ≤ a → a ≤ 1048576 →
    Ev (fun k => laws_szQueryS.l0 k l a (i : Int)) (if a < tsum nQuery (l.drop i) then -1 else a - tsum nQuery (l.drop i)) := by
  intro d
  induction d with
  | zero =>
    intro i a hi h0 h1
    obtain rfl : i = l.length := by omega
    refine Ev.step (fun k => by rw [laws_szQueryS.l0]) (Ev.neg (by omega) (Ev.const ?_))
    simp [tsum]; omega
  | succ d ih =>
    intro i a hi h0 h1
    have hlt : i < l.length := by omega
    rw [drop_cons hlt, tsum_cons]
    refine Ev.step (fun k => by rw [laws_szQueryS.l0]) (Ev.pos (by omega) (Ev.pos (by omega) ?_))
    have e : rd_T89 l (i : Int) = l[i] := by rw [rd_T89]; exact getD_nat _ _ _ hlt
    rw [e, inc (by omega)]
    refine Ev.bind (szQuery (l[i].f0) (l[i].f1) a h0 h1 (hb _ (List.getElem_mem hlt)).1 (hb _ (List.getElem_mem hlt)).2) ?_
    by_cases h : a < nQuery l[i]
    · rw [if_pos (by first | exact h | (simp only [nQuery] at h; omega))]
      refine Ev.pos (by omega) (Ev.const ?_)
      rw [if_pos (by omega)]
    · rw [if_neg (by first | exact h | (simp only [nQuery] at h; omega))]
      refine Ev.neg (by first | omega | (simp only [nQuery] at h; omega)) (Ev.eq (ih (i + 1) _ (by omega) (by first | omega | (simp only [nQuery] at h; omega)) (by omega)) rfl ?_)
      by_cases h2 : a - nQuery l[i] < tsum nQuery (l.drop (i + 1))
      · rw [if_pos (by first | exact h2 | (simp only [nQuery] at h2 ⊢; omega)), if_pos (by omega)]
      · rw [if_neg (by first | exact h2 | (simp only [nQuery] at h2 ⊢; omega)), if_neg (by omega)]; first | omega | (simp only [nQuery]; omega)
theorem szQueryS (l : List S89) (a : Int) (h0 : 0 ≤ a) (h1 : a ≤ 1048576) (hq : qQueryS l) : Ev (fun k => laws_szQueryS.f k l a) (if a < nQueryS l then -1 else a - nQueryS l) := by
  have hl1 := hq.1
  have hw : wrap64 (a - (l.length : Int)) = a - l.length := w64 (by omega) (by omega)
  unfold nQueryS
  by_cases h : a < l.length
  · refine Ev.eq (Ev.const (r := -1) rfl) ?_ (by rw [if_pos (by omega)])
    funext k
    rw [laws_szQueryS.f, hw, if_pos (by omega)]
  · refine Ev.eq (szQueryS_loop l (by omega) hq.2 l.length 0 (a - l.length) (by omega) (by omega) (by omega)) ?_ ?_
    · funext k
      rw [laws_szQueryS.f, hw, if_neg (by omega)]; rfl
    · rw [List.drop_zero]
      by_cases h2 : a - l.length < tsum nQuery l
      · rw [if_pos h2, if_pos (by omega)]
      · rw [if_neg h2, if_neg (by omega)]; omega
theorem toQuery (x0 : List Int) (x1 : List S197) (hn : nIntS x0 + nAtomS x1 ≤ 1048576) : Ev (fun k => laws_toQuery.f k x0 x1) (cIntS x0, cAtomS x1) := by
  unfold laws_toQuery.f
  refine Ev.bind (toIntS x0 (by omega)) ?_
  refine Ev.bind (toAtomS x1 (by omega)) ?_
  exact Ev.const rfl
theorem toQueryS_loop (l : List S89) (hn : nQueryS l ≤ 1048576) : ∀ (d i : Nat), i + d = l.length → Ev (fun k => laws_toQueryS.l0 k l (cQueryS (l.take i) ++ List.replicate d z96) (i : Int)) (cQueryS l) := by
  have hlen : l.length ≤ 1048576 := by unfold nQueryS at hn; omega
  intro d
  induction d with
  | zero =>
    intro i hi
    obtain rfl : i = l.length := by omega
    refine Ev.step (fun k => by rw [laws_toQueryS.l0]) (Ev.neg (by omega) (Ev.const ?_))
    simp
  | succ d ih =>
    intro i hi
    have hlt : i < l.length := by omega
    refine Ev.step (fun k => by rw [laws_toQueryS.l0]) (Ev.pos (by omega) (Ev.pos (by omega) ?_))
    have e : rd_T89 l (i : Int) = l[i] := by rw [rd_T89]; exact getD_nat _ _ _ hlt
    rw [e, inc (by omega)]
    have hx : nQuery l[i] ≤ 1048576 := by have := tsum_mem nQuery (List.getElem_mem hlt); unfold nQueryS at hn; omega
    refine Ev.bind (toQuery (l[i].f0) (l[i].f1) hx) (Ev.pos (by simp [cQueryS]; omega) ?_)
    refine Ev.eq (ih (i + 1) (by omega)) ?_ rfl
    funext k
    have e : ((i : Int)).toNat = i := by omega
    have el : (cQueryS (l.take i)).length = i := by simp [cQueryS]; omega
    rw [e, fill_set' _ _ _ _ _ el, take_snoc hlt]
    rw [show cQueryS (l.take i ++ [l[i]]) = cQueryS (l.take i) ++ [cQuery l[i]] from List.map_append ..]
    try rfl
theorem toQueryS (l : List S89) (hn : nQueryS l ≤ 1048576) : Ev (fun k => laws_toQueryS.f k l) (cQueryS l) := by
  have h := toQueryS_loop l hn l.length 0 (by omega)
  have hlen : l.length ≤ 1048576 := by unfold nQueryS at hn; omega
  refine Ev.eq (Ev.pos (c := 0 ≤ (l.length : Int)) (g := fun _ => none) (by omega) (Ev.pos (c := ((l.length : Int) : Int).toNat ≤ 5864062014805) (g := fun _ => none) (by omega) h)) ?_ rfl
  funext k
  rw [laws_toQueryS.f]; simp [cQueryS]
theorem eqQuery (x0 : List Int) (x1 : List S177) (mx0_ : x0.length ≤ 4611686018427387000) (mx1_ : mAtomS x1) : Ev (fun k => laws_eqQuery.f k x0 x1 x0 x1) true := by
  unfold laws_eqQuery.f
  refine Ev.bind (eqIntS x0 mx0_) (Ev.pos rfl ?_)
  refine Ev.bind (eqAtomS x1 mx1_) (Ev.pos rfl ?_)
  exact Ev.const rfl
theorem eqQueryS_loop (l : List S96) (hl : l.length ≤ 4611686018427387000) (hb : ∀ x ∈ l, mQuery x) : ∀ (d i : Nat), i + d = l.length → Ev (fun k => laws_eqQueryS.l0 k l l (i : Int)) true := by
  intro d
  induction d with
  | zero =>
    intro i hi
    exact Ev.step (fun k => by rw [laws_eqQueryS.l0]) (Ev.neg (by omega) (Ev.const rfl))
  | succ d ih =>
    intro i hi
    have hlt : i < l.length := by omega
    refine Ev.step (fun k => by rw [laws_eqQueryS.l0]) (Ev.pos (by omega) (Ev.pos (by omega) (Ev.pos (by omega) ?_)))
    have e : rd_T96 l (i : Int) = l[i] := by rw [rd_T96]; exact getD_nat _ _ _ hlt
    rw [e, inc (by omega)]
    exact Ev.bind (eqQuery (l[i].f0) (l[i].f1) ((hb _ (List.getElem_mem hlt)).1) ((hb _ (List.getElem_mem hlt)).2)) (Ev.pos rfl (ih (i + 1) (by omega)))
theorem eqQueryS (l : List S96) (hm : mQueryS l) : Ev (fun k => laws_eqQueryS.f k l l) true :=
  Ev.eq (Ev.pos (c := (l.length : Int) = l.length) (g := fun _ => some false) rfl (eqQueryS_loop l hm.1 hm.2 l.length 0 (by omega))) (by funext k; rw [laws_eqQueryS.f]; rfl) rfl
theorem mcQuery {x : S89} (hn : nQuery x ≤ 1048576) : mQuery (cQuery x) := by
  unfold nQuery at hn
  exact ⟨mcIntS (l := x.f0) (by omega), mcAtomS (l := x.f1) (by omega)⟩
theorem mcQueryS {l : List S89} (hn : nQueryS l ≤ 1048576) : mQueryS (cQueryS l) := by
  unfold nQueryS at hn
  refine ⟨by simp [cQueryS]; omega, fun x hx => ?_⟩
  obtain ⟨y, hy, rfl⟩ := List.mem_map.1 hx
  have := tsum_mem nQuery hy
  exact mcQuery (by omega)
end Go.Proofs.Ythebbgobncbooaa.PLaw
