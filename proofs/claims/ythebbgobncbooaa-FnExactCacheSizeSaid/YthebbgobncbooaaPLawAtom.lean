/- The laws' own helpers over Atom: sizes (sz..), copies (to..), comparisons (eq..): what each comes to. Conditions: bounds on lengths. -/
import Derived.Test.YthebbgobncbooaaPx0
import Derived.Test.YthebbgobncbooaaPx14
import Derived.Test.YthebbgobncbooaaPx15
import Derived.Test.YthebbgobncbooaaPx16
import Derived.Test.YthebbgobncbooaaPBase
import Derived.Test.YthebbgobncbooaaPLawIntS
namespace Go.Proofs.Ythebbgobncbooaa.PLaw
open Go.RowKit Go.Proofs.Ythebbgobncbooaa.P Go.Proofs.YthebbgobncbooaaW.PrintWords Go.Proofs.YthebbgobncbooaaW.PrintLast Go.Proofs.Ythebbgobncbooaa.PB
set_option linter.unusedVariables false

def qAtom (x : S197) : Prop := ((Lit.int .i64 x.f0).wf = true) ∧ (qIntS x.f1)
def nAtom (x : S197) : Nat := nIntS x.f1
def cAtom (x : S197) : S177 := ⟨x.f0, cIntS x.f1⟩
def qAtomS (l : List S197) : Prop := l.length ≤ 9223372036854775807 ∧ ∀ x ∈ l, qAtom x
def nAtomS (l : List S197) : Nat := l.length + tsum nAtom l
def cAtomS (l : List S197) : List S177 := l.map cAtom
def mAtom (x : S177) : Prop := (True) ∧ (x.f1.length ≤ 4611686018427387000)
def mAtomS (l : List S177) : Prop := l.length ≤ 4611686018427387000 ∧ ∀ x ∈ l, mAtom x
theorem szAtom (x0 : Int) (x1 : List Int) (a : Int) (h0 : 0 ≤ a) (h1 : a ≤ 1048576) (qx0_ : (Lit.int .i64 x0).wf = true) (qx1_ : qIntS x1) : Ev (fun k => laws_szAtom.f x0 x1 a) (if a < ((nIntS x1 : Nat) : Int) then -1 else a - ((nIntS x1 : Nat) : Int)) := by
  unfold laws_szAtom.f
  have g0 : a ≤ 1048576 := by first | omega | exact h1
  refine Ev.bind (szIntS x1 a (by omega) (by omega) qx1_) ?_
  by_cases c0 : a < ((nIntS x1 : Nat) : Int)
  · rw [if_pos c0]
    exact Ev.pos (by omega) (Ev.const (by first | rfl | rw [if_pos (by omega)]))
  rw [if_neg c0]
  refine Ev.neg (by omega) ?_
  have e0 : a - ((nIntS x1 : Nat) : Int) = (a - ((nIntS x1 : Nat) : Int)) := by omega
  rw [e0]
  exact Ev.const (by first | rfl | rw [if_neg (by omega)])
theorem szAtomS_loop (l : List S197) (hl : l.length ≤ 1048576) (hb : ∀ x ∈ l, qAtom x) : ∀ (d i : Nat) (a : Int), i + d = l.length → 0 ≤ a → a ≤ 1048576 →
    Ev (fun k => laws_szAtomS.l0 k l a (i : Int)) (if a < tsum nAtom (l.drop i) then -1 else a - tsum nAtom (l.drop i)) := by
  intro d
  induction d with
  | zero =>
    intro i a hi h0 h1
    obtain rfl : i = l.length := by omega
    refine Ev.step (fun k => by rw [laws_szAtomS.l0]) (Ev.neg (by omega) (Ev.const ?_))
    simp [tsum]; omega
  | succ d ih =>
    intro i a hi h0 h1
    have hlt : i < l.length := by omega
    rw [drop_cons hlt, tsum_cons]
    refine Ev.step (fun k => by rw [laws_szAtomS.l0]) (Ev.pos (by omega) (Ev.pos (by omega) ?_))
    have e : rd_T197 l (i : Int) = l[i] := by rw [rd_T197]; exact getD_nat _ _ _ hlt
    rw [e, inc (by omega)]
    refine Ev.bind (szAtom (l[i].f0) (l[i].f1) a h0 h1 (hb _ (List.getElem_mem hlt)).1 (hb _ (List.getElem_mem hlt)).2) ?_
    by_cases h : a < nAtom l[i]
    · rw [if_pos (by first | exact h | (simp only [nAtom] at h; omega))]
      refine Ev.pos (by omega) (Ev.const ?_)
      rw [if_pos (by omega)]
    · rw [if_neg (by first | exact h | (simp only [nAtom] at h; omega))]
      refine Ev.neg (by first | omega | (simp only [nAtom] at h; omega)) (Ev.eq (ih (i + 1) _ (by omega) (by first | omega | (simp only [nAtom] at h; omega)) (by omega)) rfl ?_)
      by_cases h2 : a - nAtom l[i] < tsum nAtom (l.drop (i + 1))
      · rw [if_pos (by first | exact h2 | (simp only [nAtom] at h2 ⊢; omega)), if_pos (by omega)]
      · rw [if_neg (by first | exact h2 | (simp only [nAtom] at h2 ⊢; omega)), if_neg (by omega)]; first | omega | (simp only [nAtom]; omega)
theorem szAtomS (l : List S197) (a : Int) (h0 : 0 ≤ a) (h1 : a ≤ 1048576) (hq : qAtomS l) : Ev (fun k => laws_szAtomS.f k l a) (if a < nAtomS l then -1 else a - nAtomS l) := by
  have hl1 := hq.1
  have hw : wrap64 (a - (l.length : Int)) = a - l.length := w64 (by omega) (by omega)
  unfold nAtomS
  by_cases h : a < l.length
  · refine Ev.eq (Ev.const (r := -1) rfl) ?_ (by rw [if_pos (by omega)])
    funext k
    rw [laws_szAtomS.f, hw, if_pos (by omega)]
  · refine Ev.eq (szAtomS_loop l (by omega) hq.2 l.length 0 (a - l.length) (by omega) (by omega) (by omega)) ?_ ?_
    · funext k
      rw [laws_szAtomS.f, hw, if_neg (by omega)]; rfl
    · rw [List.drop_zero]
      by_cases h2 : a - l.length < tsum nAtom l
      · rw [if_pos h2, if_pos (by omega)]
      · rw [if_neg h2, if_neg (by omega)]; omega
theorem toAtom (x0 : Int) (x1 : List Int) (hn : nIntS x1 ≤ 1048576) : Ev (fun k => laws_toAtom.f k x0 x1) (x0, cIntS x1) := by
  unfold laws_toAtom.f
  refine Ev.bind (toIntS x1 (by omega)) ?_
  exact Ev.const rfl
theorem toAtomS_loop (l : List S197) (hn : nAtomS l ≤ 1048576) : ∀ (d i : Nat), i + d = l.length → Ev (fun k => laws_toAtomS.l0 k l (cAtomS (l.take i) ++ List.replicate d z177) (i : Int)) (cAtomS l) := by
  have hlen : l.length ≤ 1048576 := by unfold nAtomS at hn; omega
  intro d
  induction d with
  | zero =>
    intro i hi
    obtain rfl : i = l.length := by omega
    refine Ev.step (fun k => by rw [laws_toAtomS.l0]) (Ev.neg (by omega) (Ev.const ?_))
    simp
  | succ d ih =>
    intro i hi
    have hlt : i < l.length := by omega
    refine Ev.step (fun k => by rw [laws_toAtomS.l0]) (Ev.pos (by omega) (Ev.pos (by omega) ?_))
    have e : rd_T197 l (i : Int) = l[i] := by rw [rd_T197]; exact getD_nat _ _ _ hlt
    rw [e, inc (by omega)]
    have hx : nAtom l[i] ≤ 1048576 := by have := tsum_mem nAtom (List.getElem_mem hlt); unfold nAtomS at hn; omega
    refine Ev.bind (toAtom (l[i].f0) (l[i].f1) hx) (Ev.pos (by simp [cAtomS]; omega) ?_)
    refine Ev.eq (ih (i + 1) (by omega)) ?_ rfl
    funext k
    have e : ((i : Int)).toNat = i := by omega
    have el : (cAtomS (l.take i)).length = i := by simp [cAtomS]; omega
    rw [e, fill_set' _ _ _ _ _ el, take_snoc hlt]
    rw [show cAtomS (l.take i ++ [l[i]]) = cAtomS (l.take i) ++ [cAtom l[i]] from List.map_append ..]
    try rfl
theorem toAtomS (l : List S197) (hn : nAtomS l ≤ 1048576) : Ev (fun k => laws_toAtomS.f k l) (cAtomS l) := by
  have h := toAtomS_loop l hn l.length 0 (by omega)
  have hlen : l.length ≤ 1048576 := by unfold nAtomS at hn; omega
  refine Ev.eq (Ev.pos (c := 0 ≤ (l.length : Int)) (g := fun _ => none) (by omega) (Ev.pos (c := ((l.length : Int) : Int).toNat ≤ 8796093022208) (g := fun _ => none) (by omega) h)) ?_ rfl
  funext k
  rw [laws_toAtomS.f]; simp [cAtomS]
theorem eqAtom (x0 : Int) (x1 : List Int) (mx1_ : x1.length ≤ 4611686018427387000) : Ev (fun k => laws_eqAtom.f k x0 x1 x0 x1) true := by
  unfold laws_eqAtom.f
  first | refine Ev.pos rfl ?_ | skip
  refine Ev.bind (eqIntS x1 mx1_) (Ev.pos rfl ?_)
  exact Ev.const rfl
theorem eqAtomS_loop (l : List S177) (hl : l.length ≤ 4611686018427387000) (hb : ∀ x ∈ l, mAtom x) : ∀ (d i : Nat), i + d = l.length → Ev (fun k => laws_eqAtomS.l0 k l l (i : Int)) true := by
  intro d
  induction d with
  | zero =>
    intro i hi
    exact Ev.step (fun k => by rw [laws_eqAtomS.l0]) (Ev.neg (by omega) (Ev.const rfl))
  | succ d ih =>
    intro i hi
    have hlt : i < l.length := by omega
    refine Ev.step (fun k => by rw [laws_eqAtomS.l0]) (Ev.pos (by omega) (Ev.pos (by omega) (Ev.pos (by omega) ?_)))
    have e : rd_T177 l (i : Int) = l[i] := by rw [rd_T177]; exact getD_nat _ _ _ hlt
    rw [e, inc (by omega)]
    exact Ev.bind (eqAtom (l[i].f0) (l[i].f1) ((hb _ (List.getElem_mem hlt)).2)) (Ev.pos rfl (ih (i + 1) (by omega)))
theorem eqAtomS (l : List S177) (hm : mAtomS l) : Ev (fun k => laws_eqAtomS.f k l l) true :=
  Ev.eq (Ev.pos (c := (l.length : Int) = l.length) (g := fun _ => some false) rfl (eqAtomS_loop l hm.1 hm.2 l.length 0 (by omega))) (by funext k; rw [laws_eqAtomS.f]; rfl) rfl
theorem mcAtom {x : S197} (hn : nAtom x ≤ 1048576) : mAtom (cAtom x) := by
  unfold nAtom at hn
  exact ⟨trivial, mcIntS (l := x.f1) (by omega)⟩
theorem mcAtomS {l : List S197} (hn : nAtomS l ≤ 1048576) : mAtomS (cAtomS l) := by
  unfold nAtomS at hn
  refine ⟨by simp [cAtomS]; omega, fun x hx => ?_⟩
  obtain ⟨y, hy, rfl⟩ := List.mem_map.1 hx
  have := tsum_mem nAtom hy
  exact mcAtom (by omega)
end Go.Proofs.Ythebbgobncbooaa.PLaw
