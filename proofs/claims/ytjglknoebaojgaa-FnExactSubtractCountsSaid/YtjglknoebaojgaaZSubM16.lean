/- Several texts in one: what the claim needs of them. Conditions: each declaration's own. -/
import Derived.Test.YtjglknoebaojgaaZSubM15
import Derived.Test.YtjglknoebaojgaaZSubM10
import Derived.Test.YtjglknoebaojgaaZSubGx2
import Derived.Test.YtjglknoebaojgaaZSubM12
import Derived.Test.YtjglknoebaojgaaZSubM13
import Derived.Test.YtjglknoebaojgaaZSubWWords
import Derived.Deep.Slices
import Derived.Deep.Strs
import Derived.Lib.SmallJoins
import Derived.WideShapes
import Derived.ChangeSame
import Derived.DataElems
namespace Go.Proofs.Ytjglknoebaojgaa.PSubB
open Go.RowKit Go.Proofs.Ytjglknoebaojgaa.G Go.Proofs.YtjglknoebaojgaaW.PrintWords Go.Proofs.Ytjglknoebaojgaa.PB Go.Proofs.Ytjglknoebaojgaa.PSubM Go.Proofs.Ytjglknoebaojgaa.PSubE
set_option linter.unusedVariables false
def Bd (n M : Nat) (l : List T) : Prop := l.length ≤ n ∧ ∀ x ∈ l, x.f0.length ≤ M
theorem go_bd {n M m : Nat} {x : T} {v : Int} {k : List T → List T × Bool} {acc : List T} (hx : x.f0.length ≤ M) (ha : Bd n M acc) (h : ∀ acc, Bd (n + 1) M acc → Bd (n + 1 + m) M (k acc).1) : Bd (n + 1 + m) M (go x v k acc).1 := by
  unfold go
  split
  · exact ⟨Nat.zero_le _, fun y hy => by simp at hy⟩
  · split
    · refine h _ ⟨by have := ha.1; simp; omega, fun y hy => ?_⟩
      rcases List.mem_append.1 hy with hy | hy
      · exact ha.2 y hy
      · rw [List.mem_singleton.1 hy]; exact hx
    · exact h _ ⟨by have := ha.1; omega, ha.2⟩
theorem sub_bd (M : Nat) : ∀ (a b acc : List T) (n : Nat), (∀ x ∈ a, x.f0.length ≤ M) → Bd n M acc → Bd (n + a.length) M (sub a b acc).1
  | [], [], acc, n, _, ha => ha
  | [], _ :: _, acc, n, _, _ => ⟨Nat.zero_le _, fun y hy => by simp [sub] at hy⟩
  | x :: a, [], acc, n, h, ha => by
    rw [sub, List.length_cons, show n + (a.length + 1) = n + 1 + a.length by omega]
    exact go_bd (h x (by simp)) ha (fun acc hb => sub_bd M a [] acc (n + 1) (fun y hy => h y (by simp [hy])) hb)
  | x :: a, y :: b, acc, n, h, ha => by
    rw [sub, List.length_cons, show n + (a.length + 1) = n + 1 + a.length by omega]
    split
    · exact go_bd (h x (by simp)) ha (fun acc hb => sub_bd M a b acc (n + 1) (fun y hy => h y (by simp [hy])) hb)
    · exact go_bd (h x (by simp)) ha (fun acc hb => sub_bd M a (y :: b) acc (n + 1) (fun y hy => h y (by simp [hy])) hb)
theorem res_bd {a b : List T} (ha : okC a) : Bd a.length 1048576 (res a b).1 := by
  unfold res
  split
  · split
    · have := sub_bd 1048576 a b [] 0 ha.2 ⟨Nat.le_refl _, fun y hy => by simp at hy⟩
      rwa [Nat.zero_add] at this
    · exact ⟨Nat.zero_le _, fun y hy => by simp at hy⟩
  · exact ⟨Nat.zero_le _, fun y hy => by simp at hy⟩
end Go.Proofs.Ytjglknoebaojgaa.PSubB

namespace Go.Proofs.Ytjglknoebaojgaa.PSum
open Go.RowKit Go.Proofs.Ytjglknoebaojgaa.Lay Go.Proofs.Ytjglknoebaojgaa.PB
theorem sum_le {α β : Type} {f : β → Nat} {c : α → β} {n : α → Nat} (m : Nat) (h : ∀ x, f (c x) ≤ m + n x) : ∀ l : List α, sumOf f (l.map c) ≤ m * l.length + tsum n l
  | [] => Nat.zero_le _
  | x :: r => by
    have h1 := sum_le m h r
    have h2 := h x
    have e : m * (r.length + 1) = m * r.length + m := Nat.mul_succ m r.length
    rw [List.map_cons, sumOf, tsum_cons, List.length_cons, e]
    omega
theorem sum_one (l : List Int) : sumOf (fun _ : Int => 1) l = l.length := by
  induction l with
  | nil => rfl
  | cons x r ih => rw [sumOf, ih, List.length_cons]; omega
theorem sum_bound {α : Type} (f : α → Nat) (B : Nat) : ∀ l : List α, (∀ x ∈ l, f x ≤ B) → Lay.sumOf f l ≤ l.length * B
  | [], _ => Nat.zero_le _
  | x :: r, h => by
    have h1 := sum_bound f B r (fun y hy => h y (by simp [hy]))
    have h2 := h x (by simp)
    rw [Lay.sumOf, List.length_cons, Nat.succ_mul]; omega
end Go.Proofs.Ytjglknoebaojgaa.PSum

namespace Go.Proofs.Ytjglknoebaojgaa.PLaw
open Go.RowKit Go.Proofs.Ytjglknoebaojgaa.G Go.Proofs.YtjglknoebaojgaaW.PrintWords Go.Proofs.YtjglknoebaojgaaW.PrintLast Go.Proofs.Ytjglknoebaojgaa.PB
set_option linter.unusedVariables false

def qIntS (l : List Int) : Prop := l.length ≤ 9223372036854775807 ∧ ∀ x ∈ l, (Lit.int .i64 x).wf = true
def nIntS (l : List Int) : Nat := l.length
def cIntS (l : List Int) : List Int := l
theorem szIntS (l : List Int) (a : Int) (h0 : 0 ≤ a) (h1 : a ≤ 1048576) (hl : qIntS l) : Ev (fun k => laws_szIntS.f l a) (if a < nIntS l then -1 else a - nIntS l) := by
  have hl1 := hl.1
  refine Ev.const ?_
  unfold laws_szIntS.f nIntS
  rw [w64 (by omega) (by omega)]
  by_cases h : a < l.length
  · rw [if_pos (by omega), if_pos h]
  · rw [if_neg (by omega), if_neg h]
theorem toIntS_loop (l : List Int) (hn : nIntS l ≤ 1048576) : ∀ (d i : Nat), i + d = l.length → Ev (fun k => laws_toIntS.l0 k l (cIntS (l.take i) ++ List.replicate d 0) (i : Int)) (cIntS l) := by
  have hlen : l.length ≤ 1048576 := by unfold nIntS at hn; omega
  intro d
  induction d with
  | zero =>
    intro i hi
    obtain rfl : i = l.length := by omega
    refine Ev.step (fun k => by rw [laws_toIntS.l0]) (Ev.neg (by omega) (Ev.const ?_))
    simp
  | succ d ih =>
    intro i hi
    have hlt : i < l.length := by omega
    refine Ev.step (fun k => by rw [laws_toIntS.l0]) (Ev.pos (by omega) (Ev.pos (by omega) ?_))
    rw [rd_nat _ _ hlt, inc (by omega)]
    refine Ev.pos (by simp [cIntS]; omega) ?_
    refine Ev.eq (ih (i + 1) (by omega)) ?_ rfl
    funext k
    have e : ((i : Int)).toNat = i := by omega
    have el : (cIntS (l.take i)).length = i := by simp [cIntS]; omega
    rw [e, fill_set' _ _ _ _ _ el, take_snoc hlt]
    try rfl
theorem toIntS (l : List Int) (hn : nIntS l ≤ 1048576) : Ev (fun k => laws_toIntS.f k l) (cIntS l) := by
  have h := toIntS_loop l hn l.length 0 (by omega)
  have hlen : l.length ≤ 1048576 := by unfold nIntS at hn; omega
  refine Ev.eq (Ev.pos (c := 0 ≤ (l.length : Int)) (g := fun _ => none) (by omega) (Ev.pos (c := ((l.length : Int) : Int).toNat ≤ 35184372088832) (g := fun _ => none) (by omega) h)) ?_ rfl
  funext k
  rw [laws_toIntS.f]; simp [cIntS]
theorem eqIntS_loop (l : List Int) (hl : l.length ≤ 4611686018427387000) : ∀ (d i : Nat), i + d = l.length → Ev (fun k => laws_eqIntS.l0 k l l (i : Int)) true := by
  intro d
  induction d with
  | zero =>
    intro i hi
    exact Ev.step (fun k => by rw [laws_eqIntS.l0]) (Ev.neg (by omega) (Ev.const rfl))
  | succ d ih =>
    intro i hi
    have hlt : i < l.length := by omega
    refine Ev.step (fun k => by rw [laws_eqIntS.l0]) (Ev.pos (by omega) (Ev.pos (by omega) (Ev.pos (by omega) (Ev.pos rfl ?_))))
    rw [inc (by omega)]
    exact ih (i + 1) (by omega)
theorem eqIntS (l : List Int) (hm : l.length ≤ 4611686018427387000) : Ev (fun k => laws_eqIntS.f k l l) true :=
  Ev.eq (Ev.pos (c := (l.length : Int) = l.length) (g := fun _ => some false) rfl (eqIntS_loop l hm l.length 0 (by omega))) (by funext k; rw [laws_eqIntS.f]; rfl) rfl
theorem mcIntS {l : List Int} (hn : nIntS l ≤ 1048576) : (cIntS l).length ≤ 4611686018427387000 := by unfold nIntS at hn; show l.length ≤ _; omega
end Go.Proofs.Ytjglknoebaojgaa.PLaw

namespace Go.Proofs.Ytjglknoebaojgaa.PLaw
open Go.RowKit Go.Proofs.Ytjglknoebaojgaa.G Go.Proofs.YtjglknoebaojgaaW.PrintWords Go.Proofs.YtjglknoebaojgaaW.PrintLast Go.Proofs.Ytjglknoebaojgaa.PB
set_option linter.unusedVariables false

def qCounted (x : S89) : Prop := (qIntS x.f0) ∧ ((Lit.int .i64 x.f1).wf = true)
def nCounted (x : S89) : Nat := nIntS x.f0
def cCounted (x : S89) : S91 := ⟨cIntS x.f0, x.f1⟩
def qCountedS (l : List S89) : Prop := l.length ≤ 9223372036854775807 ∧ ∀ x ∈ l, qCounted x
def nCountedS (l : List S89) : Nat := l.length + tsum nCounted l
def cCountedS (l : List S89) : List S91 := l.map cCounted
def mCounted (x : S91) : Prop := (x.f0.length ≤ 4611686018427387000) ∧ (True)
def mCountedS (l : List S91) : Prop := l.length ≤ 4611686018427387000 ∧ ∀ x ∈ l, mCounted x
theorem szCounted (x0 : List Int) (x1 : Int) (a : Int) (h0 : 0 ≤ a) (h1 : a ≤ 1048576) (qx0_ : qIntS x0) (qx1_ : (Lit.int .i64 x1).wf = true) : Ev (fun k => laws_szCounted.f x0 x1 a) (if a < ((nIntS x0 : Nat) : Int) then -1 else a - ((nIntS x0 : Nat) : Int)) := by
  unfold laws_szCounted.f
  have g0 : a ≤ 1048576 := by first | omega | exact h1
  refine Ev.bind (szIntS x0 a (by omega) (by omega) qx0_) ?_
  by_cases c0 : a < ((nIntS x0 : Nat) : Int)
  · rw [if_pos c0]
    exact Ev.pos (by omega) (Ev.const (by first | rfl | rw [if_pos (by omega)]))
  rw [if_neg c0]
  refine Ev.neg (by omega) ?_
  have e0 : a - ((nIntS x0 : Nat) : Int) = (a - ((nIntS x0 : Nat) : Int)) := by omega
  rw [e0]
  exact Ev.const (by first | rfl | rw [if_neg (by omega)])
theorem szCountedS_loop (l : List S89) (hl : l.length ≤ 1048576) (hb : ∀ x ∈ l, qCounted x) : ∀ (d i : Nat) (a : Int), i + d = l.length → 0 ≤ a → a ≤ 1048576 →
    Ev (fun k => laws_szCountedS.l0 k l a (i : Int)) (if a < tsum nCounted (l.drop i) then -1 else a - tsum nCounted (l.drop i)) := by
  intro d
  induction d with
  | zero =>
    intro i a hi h0 h1
    obtain rfl : i = l.length := by omega
    refine Ev.step (fun k => by rw [laws_szCountedS.l0]) (Ev.neg (by omega) (Ev.const ?_))
    simp [tsum]; omega
  | succ d ih =>
    intro i a hi h0 h1
    have hlt : i < l.length := by omega
    rw [drop_cons hlt, tsum_cons]
    refine Ev.step (fun k => by rw [laws_szCountedS.l0]) (Ev.pos (by omega) (Ev.pos (by omega) ?_))
    have e : rd_T89 l (i : Int) = l[i] := by rw [rd_T89]; exact getD_nat _ _ _ hlt
    rw [e, inc (by omega)]
    refine Ev.bind (szCounted (l[i].f0) (l[i].f1) a h0 h1 (hb _ (List.getElem_mem hlt)).1 (hb _ (List.getElem_mem hlt)).2) ?_
    by_cases h : a < nCounted l[i]
    · rw [if_pos (by first | exact h | (simp only [nCounted] at h; omega))]
      refine Ev.pos (by omega) (Ev.const ?_)
      rw [if_pos (by omega)]
    · rw [if_neg (by first | exact h | (simp only [nCounted] at h; omega))]
      refine Ev.neg (by first | omega | (simp only [nCounted] at h; omega)) (Ev.eq (ih (i + 1) _ (by omega) (by first | omega | (simp only [nCounted] at h; omega)) (by omega)) rfl ?_)
      by_cases h2 : a - nCounted l[i] < tsum nCounted (l.drop (i + 1))
      · rw [if_pos (by first | exact h2 | (simp only [nCounted] at h2 ⊢; omega)), if_pos (by omega)]
      · rw [if_neg (by first | exact h2 | (simp only [nCounted] at h2 ⊢; omega)), if_neg (by omega)]; first | omega | (simp only [nCounted]; omega)
theorem szCountedS (l : List S89) (a : Int) (h0 : 0 ≤ a) (h1 : a ≤ 1048576) (hq : qCountedS l) : Ev (fun k => laws_szCountedS.f k l a) (if a < nCountedS l then -1 else a - nCountedS l) := by
  have hl1 := hq.1
  have hw : wrap64 (a - (l.length : Int)) = a - l.length := w64 (by omega) (by omega)
  unfold nCountedS
  by_cases h : a < l.length
  · refine Ev.eq (Ev.const (r := -1) rfl) ?_ (by rw [if_pos (by omega)])
    funext k
    rw [laws_szCountedS.f, hw, if_pos (by omega)]
  · refine Ev.eq (szCountedS_loop l (by omega) hq.2 l.length 0 (a - l.length) (by omega) (by omega) (by omega)) ?_ ?_
    · funext k
      rw [laws_szCountedS.f, hw, if_neg (by omega)]; rfl
    · rw [List.drop_zero]
      by_cases h2 : a - l.length < tsum nCounted l
      · rw [if_pos h2, if_pos (by omega)]
      · rw [if_neg h2, if_neg (by omega)]; omega
theorem toCounted (x0 : List Int) (x1 : Int) (hn : nIntS x0 ≤ 1048576) : Ev (fun k => laws_toCounted.f k x0 x1) (cIntS x0, x1) := by
  unfold laws_toCounted.f
  refine Ev.bind (toIntS x0 (by omega)) ?_
  exact Ev.const rfl
theorem toCountedS_loop (l : List S89) (hn : nCountedS l ≤ 1048576) : ∀ (d i : Nat), i + d = l.length → Ev (fun k => laws_toCountedS.l0 k l (cCountedS (l.take i) ++ List.replicate d z91) (i : Int)) (cCountedS l) := by
  have hlen : l.length ≤ 1048576 := by unfold nCountedS at hn; omega
  intro d
  induction d with
  | zero =>
    intro i hi
    obtain rfl : i = l.length := by omega
    refine Ev.step (fun k => by rw [laws_toCountedS.l0]) (Ev.neg (by omega) (Ev.const ?_))
    simp
  | succ d ih =>
    intro i hi
    have hlt : i < l.length := by omega
    refine Ev.step (fun k => by rw [laws_toCountedS.l0]) (Ev.pos (by omega) (Ev.pos (by omega) ?_))
    have e : rd_T89 l (i : Int) = l[i] := by rw [rd_T89]; exact getD_nat _ _ _ hlt
    rw [e, inc (by omega)]
    have hx : nCounted l[i] ≤ 1048576 := by have := tsum_mem nCounted (List.getElem_mem hlt); unfold nCountedS at hn; omega
    refine Ev.bind (toCounted (l[i].f0) (l[i].f1) hx) (Ev.pos (by simp [cCountedS]; omega) ?_)
    refine Ev.eq (ih (i + 1) (by omega)) ?_ rfl
    funext k
    have e : ((i : Int)).toNat = i := by omega
    have el : (cCountedS (l.take i)).length = i := by simp [cCountedS]; omega
    rw [e, fill_set' _ _ _ _ _ el, take_snoc hlt]
    rw [show cCountedS (l.take i ++ [l[i]]) = cCountedS (l.take i) ++ [cCounted l[i]] from List.map_append ..]
    try rfl
theorem toCountedS (l : List S89) (hn : nCountedS l ≤ 1048576) : Ev (fun k => laws_toCountedS.f k l) (cCountedS l) := by
  have h := toCountedS_loop l hn l.length 0 (by omega)
  have hlen : l.length ≤ 1048576 := by unfold nCountedS at hn; omega
  refine Ev.eq (Ev.pos (c := 0 ≤ (l.length : Int)) (g := fun _ => none) (by omega) (Ev.pos (c := ((l.length : Int) : Int).toNat ≤ 8796093022208) (g := fun _ => none) (by omega) h)) ?_ rfl
  funext k
  rw [laws_toCountedS.f]; simp [cCountedS]
theorem eqCounted (x0 : List Int) (x1 : Int) (mx0_ : x0.length ≤ 4611686018427387000) : Ev (fun k => laws_eqCounted.f k x0 x1 x0 x1) true := by
  unfold laws_eqCounted.f
  refine Ev.bind (eqIntS x0 mx0_) (Ev.pos rfl ?_)
  first | refine Ev.pos rfl ?_ | skip
  exact Ev.const rfl
theorem eqCountedS_loop (l : List S91) (hl : l.length ≤ 4611686018427387000) (hb : ∀ x ∈ l, mCounted x) : ∀ (d i : Nat), i + d = l.length → Ev (fun k => laws_eqCountedS.l0 k l l (i : Int)) true := by
  intro d
  induction d with
  | zero =>
    intro i hi
    exact Ev.step (fun k => by rw [laws_eqCountedS.l0]) (Ev.neg (by omega) (Ev.const rfl))
  | succ d ih =>
    intro i hi
    have hlt : i < l.length := by omega
    refine Ev.step (fun k => by rw [laws_eqCountedS.l0]) (Ev.pos (by omega) (Ev.pos (by omega) (Ev.pos (by omega) ?_)))
    have e : rd_T91 l (i : Int) = l[i] := by rw [rd_T91]; exact getD_nat _ _ _ hlt
    rw [e, inc (by omega)]
    exact Ev.bind (eqCounted (l[i].f0) (l[i].f1) ((hb _ (List.getElem_mem hlt)).1)) (Ev.pos rfl (ih (i + 1) (by omega)))
theorem eqCountedS (l : List S91) (hm : mCountedS l) : Ev (fun k => laws_eqCountedS.f k l l) true :=
  Ev.eq (Ev.pos (c := (l.length : Int) = l.length) (g := fun _ => some false) rfl (eqCountedS_loop l hm.1 hm.2 l.length 0 (by omega))) (by funext k; rw [laws_eqCountedS.f]; rfl) rfl
theorem mcCounted {x : S89} (hn : nCounted x ≤ 1048576) : mCounted (cCounted x) := by
  unfold nCounted at hn
  exact ⟨mcIntS (l := x.f0) (by omega), trivial⟩
theorem mcCountedS {l : List S89} (hn : nCountedS l ≤ 1048576) : mCountedS (cCountedS l) := by
  unfold nCountedS at hn
  refine ⟨by simp [cCountedS]; omega, fun x hx => ?_⟩
  obtain ⟨y, hy, rfl⟩ := List.mem_map.1 hx
  have := tsum_mem nCounted hy
  exact mcCounted (by omega)
end Go.Proofs.Ytjglknoebaojgaa.PLaw

namespace Go.Proofs.Ytjglknoebaojgaa.Pure
open Go.RowKit Go.Proofs.Ytjglknoebaojgaa.G Go.Proofs.YtjglknoebaojgaaW.PrintWords Go.Proofs.YtjglknoebaojgaaW.PrintLast Go.Proofs.Ytjglknoebaojgaa.PB Go.Proofs.Ytjglknoebaojgaa.PLaw Go.Proofs.Ytjglknoebaojgaa.PSubM Go.Proofs.Ytjglknoebaojgaa.PSubE Go.Proofs.Ytjglknoebaojgaa.PSubI Go.Proofs.Ytjglknoebaojgaa.PSubB Go.Proofs.Ytjglknoebaojgaa.PSum
set_option linter.unusedVariables false
theorem FnExactSubtractCounts : ∀ (l0 : List (S89)) (l1 : List (S89)), (qCountedS l0) → (qCountedS l1) → ∃ k, laws_FnExactSubtractCounts.f k l0 l1 = some true := by
  intro l0 l1 ql0 ql1
  apply Ev.rounds
  unfold laws_FnExactSubtractCounts.f
  have z0 := szCountedS l0 1048576 (by omega) (by omega) ql0
  by_cases c0 : (1048576 : Int) < ((nCountedS l0 : Nat) : Int)
  · rw [if_pos c0] at z0
    exact Ev.bind z0 (Ev.pos (by omega) (Ev.const rfl))
  rw [if_neg c0] at z0
  refine Ev.bind z0 (Ev.neg (by omega) ?_)
  have z1 := szCountedS l1 ((1048576 : Int) - ((nCountedS l0 : Nat) : Int)) (by omega) (by omega) ql1
  by_cases c1 : ((1048576 : Int) - ((nCountedS l0 : Nat) : Int)) < ((nCountedS l1 : Nat) : Int)
  · rw [if_pos c1] at z1
    exact Ev.bind z1 (Ev.pos (by omega) (Ev.const rfl))
  rw [if_neg c1] at z1
  refine Ev.bind z1 (Ev.neg (by omega) ?_)
  have sl0 : nCountedS l0 ≤ 1048576 := by omega
  have sl1 : nCountedS l1 ≤ 1048576 := by omega
  have t0 := toCountedS l0 (by omega)
  have t1 := toCountedS l1 (by omega)
  have e0 := eqCountedS (cCountedS l0) (mcCountedS (by omega))
  have e1 := eqCountedS (cCountedS l1) (mcCountedS (by omega))
  have hi : ∀ l : List Int, cnIntS l = l.length := fun l => sum_one l
  have hct : ∀ l, cnCountedS (cCountedS l) ≤ nCountedS l := fun l => by
    have := sum_le (f := fun x : S91 => cnIntS x.f0 + 1) (c := cCounted) (n := nCounted) 1 (fun x => by show cnIntS x.f0 + 1 ≤ 1 + nIntS x.f0; rw [hi]; unfold nIntS; omega) l
    unfold cnCountedS cCountedS nCountedS; omega
  have hok : ∀ l, nCountedS l ≤ 1048576 → okC (cCountedS l) := fun l hl => by
    refine ⟨by unfold cCountedS; simp; unfold nCountedS at hl; omega, fun x hx => ?_⟩
    obtain ⟨y, hy, rfl⟩ := List.mem_map.1 hx
    have h1 : nCounted y ≤ tsum nCounted l := tsum_mem nCounted hy
    have h2 : (cCounted y).f0.length = nCounted y := rfl
    unfold nCountedS at hl; omega
  have sp := spec_sub (cCountedS l0) (cCountedS l1) (hok l0 (by omega)) (hok l1 (by omega))
  have im := impl_sub (cCountedS l0) (cCountedS l1) (hok l0 (by omega)) (hok l1 (by omega))
  have hz := res_bd (b := cCountedS l1) (hok l0 (by omega))
  have hl0 : (cCountedS l0).length ≤ 1048576 := (hok l0 (by omega)).1
  have hm : mCountedS (res (cCountedS l0) (cCountedS l1)).1 := ⟨by have := hz.1; omega, fun x hx => ⟨by have := hz.2 x hx; omega, trivial⟩⟩
  have x0 := eqCountedS _ hm
  have hc0 := hct l0
  have hc1 := hct l1
  have pb0 : (1 + (cnCountedS (cCountedS l0) : Nat) + (cnCountedS (cCountedS l1) : Nat) : Int) ≤ 4611686018427387000 := by omega
  have hb := sum_bound cnC 1048577 (res (cCountedS l0) (cCountedS l1)).1 (fun x hx => by
    have h1 := hz.2 x hx
    have h2 : cnC x = x.f0.length + 1 := by unfold cnC; rw [sum_one]
    omega)
  have hmul : (res (cCountedS l0) (cCountedS l1)).1.length * 1048577 ≤ 1048576 * 1048577 := Nat.mul_le_mul_right _ (by have := hz.1; omega)
  have pb1 : (1 + (Lay.sumOf cnC (res (cCountedS l0) (cCountedS l1)).1 : Nat) : Int) ≤ 4611686018427387000 := by omega
  repeat' first
    | exact Ev.const rfl
    | refine Ev.pos rfl ?_
    | refine Ev.pos pb0 ?_
    | refine Ev.pos pb1 ?_
    | refine Ev.neg (by simp) ?_
    | refine Ev.bind t0 ?_
    | refine Ev.bind t1 ?_
    | refine Ev.bind sp ?_
    | refine Ev.bind im ?_
    | refine Ev.bind e0 ?_
    | refine Ev.bind e1 ?_
    | refine Ev.bind x0 ?_
end Go.Proofs.Ytjglknoebaojgaa.Pure

namespace Go.Proofs.Ytjglknoebaojgaa.Opens
open Go.RowKit Go.Proofs.YtjglknoebaojgaaW.PrintWords Go.Deep Go.ChangeShapes Go.WideShapes
set_option linter.unusedVariables false

/-- Whatever reads as data of type t is of kind d, and Q holds of it. -/
def Rdd {α : Type} (P : Program) (w : World) (t : TypeId) (d : Kd α) (Q : α → Prop) : Prop :=
  ∀ (H : Type) (enc : TypeId × Value → H) (fuel : Nat) (cs : List Value) (x : DataW H × List MemPlace),
    DataW.trod enc P w 0 (fun _ => true) true fuel t cs = some x → ∃ a, d.K w a cs ∧ Q a

variable {α β γ δ : Type} {P : Program} {w : World} {t e : TypeId}

theorem op_int {k : IntKind} (ht : P.underlying t = some (.int k)) : Rdd P w t (Kd.int k) (fun n => (Lit.int k n).wf = true) := by
  intro H enc fuel cs x h
  obtain ⟨n, rfl, _, hw⟩ := DataW.trod_int ht h
  exact ⟨n, rfl, hw⟩
theorem op_mono {d : Kd α} {Q Q' : α → Prop} (h : Rdd P w t d Q) (hq : ∀ a, Q a → Q' a) : Rdd P w t d Q' := by
  intro H enc fuel cs x hx
  obtain ⟨a, hk, hQ⟩ := h H enc fuel cs x hx
  exact ⟨a, hk, hq a hQ⟩
theorem op_slice {d : Kd α} {Q : α → Prop} (ht : P.underlying t = some (.slice e)) (hc : P.cellsOf e = d.sz) (hd : Rdd P w e d Q) :
    Rdd P w t (Kd.slice e d) (fun xs => xs.length ≤ 9223372036854775807 ∧ ∀ x ∈ xs, Q x) := by
  classical
  intro H enc fuel cs x h
  rcases open_slice ht h with ⟨rfl, _⟩ | ⟨a, len, cap, m, n, D, Pl, rfl, _, hl, hm, hmm, _, hx⟩
  · exact ⟨[], ⟨none, 0, rfl, Nat.le_refl _, Kd.C_nil d w⟩, by simp⟩
  · have hm' : m = cap := by simpa using hmm
    have hX : ∀ i, i < len → ∃ x : α, ∃ cs', w.cells? 0 (a.add (i * d.sz)) d.sz = some cs' ∧ d.K w x cs' ∧ Q x := by
      intro i hi
      obtain ⟨cs', h1, h2⟩ := hx i (by omega)
      obtain ⟨y, hk, hq⟩ := hd H enc n cs' _ h2
      rw [hc] at h1
      exact ⟨y, cs', h1, hk, hq⟩
    rcases Nat.eq_zero_or_pos len with h0 | h0
    · subst h0
      exact ⟨[], ⟨some a, cap, rfl, Nat.zero_le _, ⟨rfl, by simp, fun h => absurd h (Nat.lt_irrefl 0)⟩⟩, by simp⟩
    · obtain ⟨x0, _⟩ := hX 0 h0
      haveI : Inhabited α := ⟨x0⟩
      obtain ⟨X, hX'⟩ := choose_lt hX
      have hlen : ((List.range len).map X).length = len := by simp
      have hmx : ((List.range len).map X).length ≤ 9223372036854775807 := by rw [hlen]; unfold maxLen at hm; omega
      refine ⟨(List.range len).map X, ⟨some a, cap, by rw [hlen], by rw [hlen]; exact hl, ⟨rfl, hmx, fun _ => ⟨a, rfl, ?_⟩⟩⟩, hmx, ?_⟩
      · intro j p hj
        have hj' : j < len := by
          have := (List.getElem?_eq_some_iff.1 hj).1
          rwa [hlen] at this
        have hp : p = X j := by
          rw [List.getElem?_map, List.getElem?_range hj'] at hj
          simpa using hj.symm
        subst hp
        obtain ⟨cs', h1, h2, _⟩ := hX' j hj'
        obtain ⟨_, hl', hcell⟩ := World.cells?_some h1
        refine ⟨cs', hl', h2, fun i u hu => ?_⟩
        have hi : i < d.sz := by
          have := (List.getElem?_eq_some_iff.1 hu).1
          omega
        have := hcell i hi
        rw [hu] at this
        rw [← this, Addr.add_add]
      · intro x hx
        obtain ⟨i, hi, rfl⟩ := List.mem_map.1 hx
        exact (hX' i (List.mem_range.1 hi)).choose_spec.2.2
theorem op_iso {d : Kd α} {Q : α → Prop} (f : β → α) (g : α → β) (hfg : ∀ a, f (g a) = a) (h : Rdd P w t d Q) : Rdd P w t (Kd.iso d f) (fun b => Q (f b)) := by
  intro H enc fuel cs x hx
  obtain ⟨a, hk, hq⟩ := h H enc fuel cs x hx
  refine ⟨g a, ?_, ?_⟩
  · show d.K w (f (g a)) cs
    rw [hfg]; exact hk
  · show Q (f (g a))
    rw [hfg]; exact hq
theorem op_struct2 {f0 f1 : Field} {d0 : Kd α} {d1 : Kd β} {Q0 : α → Prop} {Q1 : β → Prop} (ht : P.underlying t = some (.struct #[f0, f1])) (h0 : f0.offset = 0) (h1 : f1.offset = d0.sz)
    (z : P.cellsOf t = d0.sz + d1.sz) (z0 : P.cellsOf f0.type = d0.sz) (z1 : P.cellsOf f1.type = d1.sz)
    (o0 : Rdd P w f0.type d0 Q0) (o1 : Rdd P w f1.type d1 Q1) : Rdd P w t (Kd.pair d0 d1) (fun a => Q0 a.1 ∧ Q1 a.2) := by
  intro H enc fuel cs x hx
  obtain ⟨y0, y1, n, rfl, hl, g0, g1⟩ := trod_struct2 ht hx
  obtain ⟨a, hk, hq⟩ := o0 H enc n _ y0 g0
  obtain ⟨b, hk1, hq1⟩ := o1 H enc n _ y1 g1
  rw [h0, List.drop_zero, z0] at hk
  rw [h1, z1, List.take_of_length_le (by simp; omega)] at hk1
  exact ⟨(a, b), ⟨_, _, (List.take_append_drop d0.sz cs).symm, hk, hk1⟩, hq, hq1⟩
theorem op_of {d : Kd α} {Q : α → Prop} {H : Type} {enc : TypeId × Value → H} {v : Value} {dd : DataW H} {ps : List MemPlace} (h : Rdd P w t d Q) (hx : DataW.Trod enc P w 0 (fun _ => true) true t v dd ps) :
    ∃ a, d.K w a v.cells.toList ∧ Q a := by
  obtain ⟨fuel, hf⟩ := hx
  exact h H enc fuel _ _ hf
end Go.Proofs.Ytjglknoebaojgaa.Opens

