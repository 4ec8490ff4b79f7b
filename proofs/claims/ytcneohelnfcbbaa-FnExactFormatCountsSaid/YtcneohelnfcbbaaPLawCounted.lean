/- The laws' own helpers over Counted: sizes (sz..), copies (to..), comparisons (eq..): what each comes to. Conditions: bounds on lengths. -/
import Derived.Test.YtcneohelnfcbbaaPx0
import Derived.Test.YtcneohelnfcbbaaPx4
import Derived.Test.YtcneohelnfcbbaaPx5
import Derived.Test.YtcneohelnfcbbaaPx6
import Derived.Test.YtcneohelnfcbbaaPBase
import Derived.Test.YtcneohelnfcbbaaPLawIntS
namespace Go.Proofs.Ytcneohelnfcbbaa.PLaw
open Go.RowKit Go.Proofs.Ytcneohelnfcbbaa.P Go.Proofs.YtcneohelnfcbbaaW.PrintWords Go.Proofs.YtcneohelnfcbbaaW.PrintLast Go.Proofs.Ytcneohelnfcbbaa.PB
set_option linter.unusedVariables false

def qCounted (x : S79) : Prop := (qIntS x.f0) ∧ ((Lit.int .i64 x.f1).wf = true)
def nCounted (x : S79) : Nat := nIntS x.f0
def cCounted (x : S79) : S80 := ⟨cIntS x.f0, x.f1⟩
def qCountedS (l : List S79) : Prop := l.length ≤ 9223372036854775807 ∧ ∀ x ∈ l, qCounted x
def nCountedS (l : List S79) : Nat := l.length + tsum nCounted l
def cCountedS (l : List S79) : List S80 := l.map cCounted
def mCounted (x : S80) : Prop := (x.f0.length ≤ 4611686018427387000) ∧ (True)
def mCountedS (l : List S80) : Prop := l.length ≤ 4611686018427387000 ∧ ∀ x ∈ l, mCounted x
theorem szCounted (x0 : List Int) (x1 : Int) (a : Int) (h0 : 0 ≤ a) (h1 : a ≤ 1048576) (qx0_ : qIntS x0) (qx1_ : (Lit.int .i64 x1).wf = true) : Ev (fun k => laws_szCounted.f x0 x1 a) (if a < ((nIntS x0 : Nat) : Int) then -1 else a - ((nIntS x0 : Nat) : Int)) := by
  unfold laws_szCounted.f
  have g0 : a ≤ 1048576 := by first | omega | exact h1
  refine Ev.bind (szIntS x0 a (by omega) (by omega) qx0_) ?_
  by_cases c0 : a < ((nIntS x0 : Nat) : Int)
  · rw [if_pos c0]
    exact Ev.pos (by omega) (Ev.const (by first | rfl | rw [if_pos (by omega)]))
  rw [if_neg c0]
  refine Ev.neg (by omega) ?_
  have e0 : a - ((nIntS x0 : Nat) : Int) = (a - ((nIntS x0 : Nat) : Int)) := by omega
  rw [e0]
  exact Ev.const (by first | rfl | rw [if_neg (by omega)])
theorem szCountedS_loop (l : List S79) (hl : l.length ≤ 1048576) (hb : ∀ x ∈ l, qCounted x) : ∀ (d i : Nat) (a : Int), i + d = l.length → 0 ≤ a → a ≤ 1048576 →
    Ev (fun k => laws_szCountedS.l0 k l a (i : Int)) (if a < tsum nCounted (l.drop i) then -1 else a - tsum nCounted (l.drop i)) := by
  intro d
  induction d with
  | zero =>
    intro i a hi h0 h1
    obtain rfl : i = l.length := by omega
    refine Ev.step (fun k => by rw [laws_szCountedS.l0]) (Ev.neg (by omega) (Ev.const ?_))
    simp [tsum]; omega
  | succ d ih =>
    intro i a hi h0 h1
    have hlt : i < l.length := by omega
    rw [drop_cons hlt, tsum_cons]
    refine Ev.step (fun k => by rw [laws_szCountedS.l0]) (Ev.pos (by omega) (Ev.pos (by omega) ?_))
    have e : rd_T79 l (i : Int) = l[i] := by rw [rd_T79]; exact getD_nat _ _ _ hlt
    rw [e, inc (by omega)]
    refine Ev.bind (szCounted (l[i].f0) (l[i].f1) a h0 h1 (hb _ (List.getElem_mem hlt)).1 (hb _ (List.getElem_mem hlt)).2) ?_
    by_cases h : a < nCounted l[i]
    · rw [if_pos (by first | exact h | (simp only [nCounted] at h; omega))]
      refine Ev.pos (by omega) (Ev.const ?_)
      rw [if_pos (by omega)]
    · rw [if_neg (by first | exact h | (simp only [nCounted] at h; omega))]
      refine Ev.neg (by first | omega | (simp only [nCounted] at h; omega)) (Ev.eq (ih (i + 1) _ (by omega) (by first | omega | (simp only [nCounted] at h; omega)) (by omega)) rfl ?_)
      by_cases h2 : a - nCounted l[i] < tsum nCounted (l.drop (i + 1))
      · rw [if_pos (by first | exact h2 | (simp only [nCounted] at h2 ⊢; omega)), if_pos (by omega)]
      · rw [if_neg (by first | exact h2 | (simp only [nCounted] at h2 ⊢; omega)), if_neg (by omega)]; first | omega | (simp only [nCounted]; omega)
theorem szCountedS (l : List S79) (a : Int) (h0 : 0 ≤ a) (h1 : a ≤ 1048576) (hq : qCountedS l) : Ev (fun k => laws_szCountedS.f k l a) (if a < nCountedS l then -1 else a - nCountedS l) := by
  have hl1 := hq.1
  have hw : wrap64 (a - (l.length : Int)) = a - l.length := w64 (by omega) (by omega)
  unfold nCountedS
  by_cases h : a < l.length
  · refine Ev.eq (Ev.const (r := -1) rfl) ?_ (by rw [if_pos (by omega)])
    funext k
    rw [laws_szCountedS.f, hw, if_pos (by omega)]
  · refine Ev.eq (szCountedS_loop l (by omega) hq.2 l.length 0 (a - l.length) (by omega) (by omega) (by omega)) ?_ ?_
    · funext k
      rw [laws_szCountedS.f, hw, if_neg (by omega)]; rfl
    · rw [List.drop_zero]
      by_cases h2 : a - l.length < tsum nCounted l
      · rw [if_pos h2, if_pos (by omega)]
      · rw [if_neg h2, if_neg (by omega)]; omega
theorem toCounted (x0 : List Int) (x1 : Int) (hn : nIntS x0 ≤ 1048576) : Ev (fun k => laws_toCounted.f k x0 x1) (cIntS x0, x1) := by
  unfold laws_toCounted.f
  refine Ev.bind (toIntS x0 (by omega)) ?_
  exact Ev.const rfl
theorem toCountedS_loop (l : List S79) (hn : nCountedS l ≤ 1048576) : ∀ (d i : Nat), i + d = l.length → Ev (fun k => laws_toCountedS.l0 k l (cCountedS (l.take i) ++ List.replicate d z80) (i : Int)) (cCountedS l) := by
  have hlen : l.length ≤ 1048576 := by unfold nCountedS at hn; omega
  intro d
  induction d with
  | zero =>
    intro i hi
    obtain rfl : i = l.length := by omega
    refine Ev.step (fun k => by rw [laws_toCountedS.l0]) (Ev.neg (by omega) (Ev.const ?_))
    simp
  | succ d ih =>
    intro i hi
    have hlt : i < l.length := by omega
    refine Ev.step (fun k => by rw [laws_toCountedS.l0]) (Ev.pos (by omega) (Ev.pos (by omega) ?_))
    have e : rd_T79 l (i : Int) = l[i] := by rw [rd_T79]; exact getD_nat _ _ _ hlt
    rw [e, inc (by omega)]
    have hx : nCounted l[i] ≤ 1048576 := by have := tsum_mem nCounted (List.getElem_mem hlt); unfold nCountedS at hn; omega
    refine Ev.bind (toCounted (l[i].f0) (l[i].f1) hx) (Ev.pos (by simp [cCountedS]; omega) ?_)
    refine Ev.eq (ih (i + 1) (by omega)) ?_ rfl
    funext k
    have e : ((i : Int)).toNat = i := by omega
    have el : (cCountedS (l.take i)).length = i := by simp [cCountedS]; omega
    rw [e, fill_set' _ _ _ _ _ el, take_snoc hlt]
    rw [show cCountedS (l.take i ++ [l[i]]) = cCountedS (l.take i) ++ [cCounted l[i]] from List.map_append ..]
    try rfl
theorem toCountedS (l : List S79) (hn : nCountedS l ≤ 1048576) : Ev (fun k => laws_toCountedS.f k l) (cCountedS l) := by
  have h := toCountedS_loop l hn l.length 0 (by omega)
  have hlen : l.length ≤ 1048576 := by unfold nCountedS at hn; omega
  refine Ev.eq (Ev.pos (c := 0 ≤ (l.length : Int)) (g := fun _ => none) (by omega) (Ev.pos (c := ((l.length : Int) : Int).toNat ≤ 8796093022208) (g := fun _ => none) (by omega) h)) ?_ rfl
  funext k
  rw [laws_toCountedS.f]; simp [cCountedS]
theorem eqCounted (x0 : List Int) (x1 : Int) (mx0_ : x0.length ≤ 4611686018427387000) : Ev (fun k => laws_eqCounted.f k x0 x1 x0 x1) true := by
  unfold laws_eqCounted.f
  refine Ev.bind (eqIntS x0 mx0_) (Ev.pos rfl ?_)
  first | refine Ev.pos rfl ?_ | skip
  exact Ev.const rfl
theorem eqCountedS_loop (l : List S80) (hl : l.length ≤ 4611686018427387000) (hb : ∀ x ∈ l, mCounted x) : ∀ (d i : Nat), i + d = l.length → Ev (fun k => laws_eqCountedS.l0 k l l (i : Int)) true := by
  intro d
  induction d with
  | zero =>
    intro i hi
    exact Ev.step (fun k => by rw [laws_eqCountedS.l0]) (Ev.neg (by omega) (Ev.const rfl))
  | succ d ih =>
    intro i hi
    have hlt : i < l.length := by omega
    refine Ev.step (fun k => by rw [laws_eqCountedS.l0]) (Ev.pos (by omega) (Ev.pos (by omega) (Ev.pos (by omega) ?_)))
    have e : rd_T80 l (i : Int) = l[i] := by rw [rd_T80]; exact getD_nat _ _ _ hlt
    rw [e, inc (by omega)]
    exact Ev.bind (eqCounted (l[i].f0) (l[i].f1) ((hb _ (List.getElem_mem hlt)).1)) (Ev.pos rfl (ih (i + 1) (by omega)))
theorem eqCountedS (l : List S80) (hm : mCountedS l) : Ev (fun k => laws_eqCountedS.f k l l) true :=
  Ev.eq (Ev.pos (c := (l.length : Int) = l.length) (g := fun _ => some false) rfl (eqCountedS_loop l hm.1 hm.2 l.length 0 (by omega))) (by funext k; rw [laws_eqCountedS.f]; rfl) rfl
theorem mcCounted {x : S79} (hn : nCounted x ≤ 1048576) : mCounted (cCounted x) := by
  unfold nCounted at hn
  exact ⟨mcIntS (l := x.f0) (by omega), trivial⟩
theorem mcCountedS {l : List S79} (hn : nCountedS l ≤ 1048576) : mCountedS (cCountedS l) := by
  unfold nCountedS at hn
  refine ⟨by simp [cCountedS]; omega, fun x hx => ?_⟩
  obtain ⟨y, hy, rfl⟩ := List.mem_map.1 hx
  have := tsum_mem nCounted hy
  exact mcCounted (by omega)
end Go.Proofs.Ytcneohelnfcbbaa.PLaw
