/- Out of YtjiipeidginjnaaPLawFact: what the claim needs of it. Conditions: each declaration's own. -/
import Derived.Test.YtjiipeidginjnaaZFlnPx0
import Derived.Test.YtjiipeidginjnaaZFlnPx1
import Derived.Test.YtjiipeidginjnaaZFlnPx2
import Derived.Test.YtjiipeidginjnaaZFlnPx4
import Derived.Test.YtjiipeidginjnaaZFlnPBase
import Derived.Test.YtjiipeidginjnaaZFlnPLawIntS
namespace Go.Proofs.Ytjiipeidginjnaa.PLaw
open Go.RowKit Go.Proofs.Ytjiipeidginjnaa.P Go.Proofs.YtjiipeidginjnaaW.PrintWords Go.Proofs.YtjiipeidginjnaaW.PrintLast Go.Proofs.Ytjiipeidginjnaa.PB
set_option linter.unusedVariables false

def qFact (x : S94) : Prop := ((Lit.int .i64 x.f0).wf = true) ∧ (qIntS x.f1)
def nFact (x : S94) : Nat := nIntS x.f1
def cFact (x : S94) : S82 := ⟨x.f0, cIntS x.f1⟩
def qFactS (l : List S94) : Prop := l.length ≤ 9223372036854775807 ∧ ∀ x ∈ l, qFact x
def nFactS (l : List S94) : Nat := l.length + tsum nFact l
def cFactS (l : List S94) : List S82 := l.map cFact
def mFact (x : S82) : Prop := (True) ∧ (x.f1.length ≤ 4611686018427387000)
def mFactS (l : List S82) : Prop := l.length ≤ 4611686018427387000 ∧ ∀ x ∈ l, mFact x
theorem szFact (x0 : Int) (x1 : List Int) (a : Int) (h0 : 0 ≤ a) (h1 : a ≤ 1048576) (qx0_ : (Lit.int .i64 x0).wf = true) (qx1_ : qIntS x1) : Ev (fun k => laws_szFact.f x0 x1 a) (if a < ((nIntS x1 : Nat) : Int) then -1 else a - ((nIntS x1 : Nat) : Int)) := by
  unfold laws_szFact.f
  have g0 : a ≤ 1048576 := by first | omega | exact h1
  refine Ev.bind (szIntS x1 a (by omega) (by omega) qx1_) ?_
  by_cases c0 : a < ((nIntS x1 : Nat) : Int)
  · rw [if_pos c0]
    exact Ev.pos (by omega) (Ev.const (by first | rfl | rw [if_pos (by omega)]))
  rw [if_neg c0]
  refine Ev.neg (by omega) ?_
  have e0 : a - ((nIntS x1 : Nat) : Int) = (a - ((nIntS x1 : Nat) : Int)) := by omega
  rw [e0]
  exact Ev.const (by first | rfl | rw [if_neg (by omega)])
theorem szFactS_loop (l : List S94) (hl : l.length ≤ 1048576) (hb : ∀ x ∈ l, qFact x) : ∀ (d i : Nat) (a : Int), i + d = l.length → 0 ≤ a → a ≤ 1048576 →
    Ev (fun k => laws_szFactS.l0 k l a (i : Int)) (if a < tsum nFact (l.drop i) then -1 else a - tsum nFact (l.drop i)) := by
  intro d
  induction d with
  | zero =>
    intro i a hi h0 h1
    obtain rfl : i = l.length := by omega
    refine Ev.step (fun k => by rw [laws_szFactS.l0]) (Ev.neg (by omega) (Ev.const ?_))
    simp [tsum]; omega
  | succ d ih =>
    intro i a hi h0 h1
    have hlt : i < l.length := by omega
    rw [drop_cons hlt, tsum_cons]
    refine Ev.step (fun k => by rw [laws_szFactS.l0]) (Ev.pos (by omega) (Ev.pos (by omega) ?_))
    have e : rd_T94 l (i : Int) = l[i] := by rw [rd_T94]; exact getD_nat _ _ _ hlt
    rw [e, inc (by omega)]
    refine Ev.bind (szFact (l[i].f0) (l[i].f1) a h0 h1 (hb _ (List.getElem_mem hlt)).1 (hb _ (List.getElem_mem hlt)).2) ?_
    by_cases h : a < nFact l[i]
    · rw [if_pos (by first | exact h | (simp only [nFact] at h; omega))]
      refine Ev.pos (by omega) (Ev.const ?_)
      rw [if_pos (by omega)]
    · rw [if_neg (by first | exact h | (simp only [nFact] at h; omega))]
      refine Ev.neg (by first | omega | (simp only [nFact] at h; omega)) (Ev.eq (ih (i + 1) _ (by omega) (by first | omega | (simp only [nFact] at h; omega)) (by omega)) rfl ?_)
      by_cases h2 : a - nFact l[i] < tsum nFact (l.drop (i + 1))
      · rw [if_pos (by first | exact h2 | (simp only [nFact] at h2 ⊢; omega)), if_pos (by omega)]
      · rw [if_neg (by first | exact h2 | (simp only [nFact] at h2 ⊢; omega)), if_neg (by omega)]; first | omega | (simp only [nFact]; omega)
theorem szFactS (l : List S94) (a : Int) (h0 : 0 ≤ a) (h1 : a ≤ 1048576) (hq : qFactS l) : Ev (fun k => laws_szFactS.f k l a) (if a < nFactS l then -1 else a - nFactS l) := by
  have hl1 := hq.1
  have hw : wrap64 (a - (l.length : Int)) = a - l.length := w64 (by omega) (by omega)
  unfold nFactS
  by_cases h : a < l.length
  · refine Ev.eq (Ev.const (r := -1) rfl) ?_ (by rw [if_pos (by omega)])
    funext k
    rw [laws_szFactS.f, hw, if_pos (by omega)]
  · refine Ev.eq (szFactS_loop l (by omega) hq.2 l.length 0 (a - l.length) (by omega) (by omega) (by omega)) ?_ ?_
    · funext k
      rw [laws_szFactS.f, hw, if_neg (by omega)]; rfl
    · rw [List.drop_zero]
      by_cases h2 : a - l.length < tsum nFact l
      · rw [if_pos h2, if_pos (by omega)]
      · rw [if_neg h2, if_neg (by omega)]; omega
theorem toFact (x0 : Int) (x1 : List Int) (hn : nIntS x1 ≤ 1048576) : Ev (fun k => laws_toFact.f k x0 x1) (x0, cIntS x1) := by
  unfold laws_toFact.f
  refine Ev.bind (toIntS x1 (by omega)) ?_
  exact Ev.const rfl
theorem toFactS_loop (l : List S94) (hn : nFactS l ≤ 1048576) : ∀ (d i : Nat), i + d = l.length → Ev (fun k => laws_toFactS.l0 k l (cFactS (l.take i) ++ List.replicate d z82) (i : Int)) (cFactS l) := by
  have hlen : l.length ≤ 1048576 := by unfold nFactS at hn; omega
  intro d
  induction d with
  | zero =>
    intro i hi
    obtain rfl : i = l.length := by omega
    refine Ev.step (fun k => by rw [laws_toFactS.l0]) (Ev.neg (by omega) (Ev.const ?_))
    simp
  | succ d ih =>
    intro i hi
    have hlt : i < l.length := by omega
    refine Ev.step (fun k => by rw [laws_toFactS.l0]) (Ev.pos (by omega) (Ev.pos (by omega) ?_))
    have e : rd_T94 l (i : Int) = l[i] := by rw [rd_T94]; exact getD_nat _ _ _ hlt
    rw [e, inc (by omega)]
    have hx : nFact l[i] ≤ 1048576 := by have := tsum_mem nFact (List.getElem_mem hlt); unfold nFactS at hn; omega
    refine Ev.bind (toFact (l[i].f0) (l[i].f1) hx) (Ev.pos (by simp [cFactS]; omega) ?_)
    refine Ev.eq (ih (i + 1) (by omega)) ?_ rfl
    funext k
    have e : ((i : Int)).toNat = i := by omega
    have el : (cFactS (l.take i)).length = i := by simp [cFactS]; omega
    rw [e, fill_set' _ _ _ _ _ el, take_snoc hlt]
    rw [show cFactS (l.take i ++ [l[i]]) = cFactS (l.take i) ++ [cFact l[i]] from List.map_append ..]
    try rfl
theorem toFactS (l : List S94) (hn : nFactS l ≤ 1048576) : Ev (fun k => laws_toFactS.f k l) (cFactS l) := by
  have h := toFactS_loop l hn l.length 0 (by omega)
  have hlen : l.length ≤ 1048576 := by unfold nFactS at hn; omega
  refine Ev.eq (Ev.pos (c := 0 ≤ (l.length : Int)) (g := fun _ => none) (by omega) (Ev.pos (c := ((l.length : Int) : Int).toNat ≤ 8796093022208) (g := fun _ => none) (by omega) h)) ?_ rfl
  funext k
  rw [laws_toFactS.f]; simp [cFactS]
theorem eqFact (x0 : Int) (x1 : List Int) (mx1_ : x1.length ≤ 4611686018427387000) : Ev (fun k => laws_eqFact.f k x0 x1 x0 x1) true := by
  unfold laws_eqFact.f
  first | refine Ev.pos rfl ?_ | skip
  refine Ev.bind (eqIntS x1 mx1_) (Ev.pos rfl ?_)
  exact Ev.const rfl
theorem eqFactS_loop (l : List S82) (hl : l.length ≤ 4611686018427387000) (hb : ∀ x ∈ l, mFact x) : ∀ (d i : Nat), i + d = l.length → Ev (fun k => laws_eqFactS.l0 k l l (i : Int)) true := by
  intro d
  induction d with
  | zero =>
    intro i hi
    exact Ev.step (fun k => by rw [laws_eqFactS.l0]) (Ev.neg (by omega) (Ev.const rfl))
  | succ d ih =>
    intro i hi
    have hlt : i < l.length := by omega
    refine Ev.step (fun k => by rw [laws_eqFactS.l0]) (Ev.pos (by omega) (Ev.pos (by omega) (Ev.pos (by omega) ?_)))
    have e : rd_T82 l (i : Int) = l[i] := by rw [rd_T82]; exact getD_nat _ _ _ hlt
    rw [e, inc (by omega)]
    exact Ev.bind (eqFact (l[i].f0) (l[i].f1) ((hb _ (List.getElem_mem hlt)).2)) (Ev.pos rfl (ih (i + 1) (by omega)))
theorem eqFactS (l : List S82) (hm : mFactS l) : Ev (fun k => laws_eqFactS.f k l l) true :=
  Ev.eq (Ev.pos (c := (l.length : Int) = l.length) (g := fun _ => some false) rfl (eqFactS_loop l hm.1 hm.2 l.length 0 (by omega))) (by funext k; rw [laws_eqFactS.f]; rfl) rfl
theorem mcFact {x : S94} (hn : nFact x ≤ 1048576) : mFact (cFact x) := by
  unfold nFact at hn
  exact ⟨trivial, mcIntS (l := x.f1) (by omega)⟩
theorem mcFactS {l : List S94} (hn : nFactS l ≤ 1048576) : mFactS (cFactS l) := by
  unfold nFactS at hn
  refine ⟨by simp [cFactS]; omega, fun x hx => ?_⟩
  obtain ⟨y, hy, rfl⟩ := List.mem_map.1 hx
  have := tsum_mem nFact hy
  exact mcFact (by omega)
end Go.Proofs.Ytjiipeidginjnaa.PLaw

