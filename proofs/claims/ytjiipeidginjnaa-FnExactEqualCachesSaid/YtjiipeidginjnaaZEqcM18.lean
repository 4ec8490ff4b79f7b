/- Several texts in one: what the claim needs of them. Conditions: each declaration's own. -/
import Derived.Test.YtjiipeidginjnaaZEqcWWords
import Derived.Test.YtjiipeidginjnaaZEqcM10
import Derived.Test.YtjiipeidginjnaaZEqcM11
import Derived.Test.YtjiipeidginjnaaZEqcQx4
import Derived.Test.YtjiipeidginjnaaZEqcQx5
import Derived.Test.YtjiipeidginjnaaZEqcQx6
import Derived.Test.YtjiipeidginjnaaZEqcQx7
import Derived.Test.YtjiipeidginjnaaZEqcQx8
import Derived.Test.YtjiipeidginjnaaZEqcQx9
import Derived.Deep.Slices
import Derived.Deep.Strs
import Derived.Lib.SmallJoins
import Derived.WideShapes
import Derived.ChangeSame
import Derived.DataElems
namespace Go.Proofs.Ytjiipeidginjnaa.PB
open Go.RowKit Go.Proofs.YtjiipeidginjnaaW.PrintWords
set_option linter.unusedVariables false

theorem Ev.pos {α : Type} {c : Prop} [Decidable c] {f g : Nat → Option α} {r : α} (h : c) (k : Ev f r) : Ev (fun n => if c then f n else g n) r :=
  Ev.congr (fun n => if_pos h) k
theorem Ev.neg {α : Type} {c : Prop} [Decidable c] {f g : Nat → Option α} {r : α} (h : ¬ c) (k : Ev g r) : Ev (fun n => if c then f n else g n) r :=
  Ev.congr (fun n => if_neg h) k
theorem Ev.const {α : Type} {x : Option α} {r : α} (h : x = some r) : Ev (fun _ => x) r := ⟨0, fun _ _ => h⟩
theorem Ev.eq {α : Type} {g f : Nat → Option α} {r q : α} (h : Ev g r) (hg : g = f) (hr : r = q) : Ev f q := by subst hg; subst hr; exact h

theorem inc {i : Nat} (h : i < 4611686018427387904) : wrap64 ((i : Int) + 1) = ((i + 1 : Nat) : Int) := by
  unfold wrap64; omega
theorem w64 {n : Int} (h : -9223372036854775808 ≤ n) (h' : n ≤ 9223372036854775807) : wrap64 n = n := by
  unfold wrap64; omega
theorem rd_nat (xs : List Int) (i : Nat) (h : i < xs.length) : rd xs (i : Int) = xs[i] := by
  unfold rd; simp [List.getD_eq_getElem?_getD, h]
theorem getD_nat {α : Type} (d : α) (xs : List α) (i : Nat) (h : i < xs.length) : xs.getD (i : Int).toNat d = xs[i] := by
  simp [List.getD_eq_getElem?_getD, h]
theorem drop_cons {α : Type} {xs : List α} {i : Nat} (h : i < xs.length) : xs.drop i = xs[i] :: xs.drop (i + 1) := by
  exact List.drop_eq_getElem_cons h
theorem take_snoc {α : Type} {xs : List α} {i : Nat} (h : i < xs.length) : xs.take (i + 1) = xs.take i ++ [xs[i]] := by
  exact List.take_succ_eq_append_getElem h
theorem fill_set' {α : Type} (ys : List α) (i d : Nat) (z v : α) (h : ys.length = i) : (ys ++ List.replicate (d + 1) z).set i v = ys ++ [v] ++ List.replicate d z := by
  rw [List.set_append, if_neg (by omega), h, Nat.sub_self]
  simp [List.replicate_succ]
def tsum {α : Type} (f : α → Nat) : List α → Nat
  | [] => 0
  | x :: r => f x + tsum f r
theorem tsum_cons {α : Type} (f : α → Nat) (x : α) (r : List α) : tsum f (x :: r) = f x + tsum f r := rfl
theorem tsum_mem {α : Type} (f : α → Nat) {l : List α} {x : α} (h : x ∈ l) : f x ≤ tsum f l := by
  induction l with
  | nil => simp at h
  | cons y r ih =>
    rcases List.mem_cons.1 h with rfl | h
    · simp [tsum]
    · have := ih h; simp [tsum]; omega
end Go.Proofs.Ytjiipeidginjnaa.PB

namespace Go.Proofs.Ytjiipeidginjnaa.PEqC
open Go.RowKit Go.Proofs.Ytjiipeidginjnaa.Q Go.Proofs.YtjiipeidginjnaaW.PrintWords Go.Proofs.YtjiipeidginjnaaW.PrintLast Go.Proofs.Ytjiipeidginjnaa.PB
set_option linter.unusedVariables false
def ez {α : Type} (p : α → α → Bool) : List α → List α → Bool
  | x :: xs, y :: ys => p x y && ez p xs ys
  | _, _ => true
def eqW {α : Type} (p : α → α → Bool) (xs ys : List α) : Bool := if xs.length = ys.length then ez p xs ys else false
def eI (xs ys : List Int) : Bool := eqW (fun a b => decide (a = b)) xs ys
def pA (a b : S153) : Bool := decide (a.f0 = b.f0) && eI a.f1 b.f1
def pQ (a b : S72) : Bool := eI a.f0 b.f0 && eqW pA a.f1 b.f1
def pT (a b : List (List Int)) : Bool := eqW eI a b
def bA (a : S153) : Prop := a.f1.length ≤ 1048576
def bQ (q : S72) : Prop := q.f0.length ≤ 1048576 ∧ q.f1.length ≤ 1048576 ∧ ∀ a ∈ q.f1, bA a
def bT (t : List (List Int)) : Prop := t.length ≤ 1048576 ∧ ∀ r ∈ t, r.length ≤ 1048576
theorem ez_loop {α : Type} (p : α → α → Bool) (xs ys : List α) (hl : xs.length = ys.length) (l : Nat → Int → Option Bool)
    (step : ∀ i, (h : i < xs.length) → (h' : i < ys.length) → ∀ r, Ev (fun k => l k ((i + 1 : Nat) : Int)) r → Ev (fun k => l k (i : Int)) (if p xs[i] ys[i] = true then r else false))
    (fin : Ev (fun k => l k ((xs.length : Nat) : Int)) true) : Ev (fun k => l k 0) (ez p xs ys) := by
  have key : ∀ (d i : Nat), i + d = xs.length → Ev (fun k => l k (i : Int)) (ez p (xs.drop i) (ys.drop i)) := by
    intro d
    induction d with
    | zero =>
      intro i hi
      obtain rfl : i = xs.length := by omega
      have e : ez p (xs.drop xs.length) (ys.drop xs.length) = true := by rw [List.drop_length]; rfl
      rw [e]; exact fin
    | succ d ih =>
      intro i hi
      have h : i < xs.length := by omega
      have h' : i < ys.length := by omega
      refine Ev.eq (step i h h' _ (ih (i + 1) (by omega))) rfl ?_
      have e : ez p (xs.drop i) (ys.drop i) = (p xs[i] ys[i] && ez p (xs.drop (i + 1)) (ys.drop (i + 1))) := by
        conv => lhs; rw [drop_cons h, drop_cons h', ez]
      rw [e]
      cases p xs[i] ys[i] <;> rfl
  have := key xs.length 0 (by omega)
  simpa using this
theorem rdA_ (l : List S153) (i : Nat) (h : i < l.length) : rd_T153 l (i : Int) = l[i] := by rw [rd_T153]; exact getD_nat _ _ _ h
theorem rdQ_ (l : List S72) (i : Nat) (h : i < l.length) : rd_T72 l (i : Int) = l[i] := by rw [rd_T72]; exact getD_nat _ _ _ h
theorem rdT_ (l : List (List (List Int))) (i : Nat) (h : i < l.length) : rd_L5 l (i : Int) = l[i] := by rw [rd_L5]; exact getD_nat _ _ _ h
theorem rdR_ (l : List (List Int)) (i : Nat) (h : i < l.length) : rd_L1 l (i : Int) = l[i] := by rw [rd_L1]; exact getD_nat _ _ _ h
/-- A test whose two ways are known. -/
theorem Ev.if2 {b : Bool} {f : Nat → Option Bool} {r : Bool} (h : Ev f r) : Ev (fun k => if b = true then f k else some false) (if b = true then r else false) := by
  cases b with
  | true => exact Ev.pos rfl h
  | false => exact Ev.neg (by simp) (Ev.const rfl)
theorem sInts (a b : List Int) (ha : a.length ≤ 1048576) : Ev (fun k => spec_l2Ints.f k a b) (eI a b) := by
  unfold spec_l2Ints.f eI eqW
  by_cases h : a.length = b.length
  · rw [if_pos h]
    refine Ev.pos (by omega) (ez_loop _ a b h (fun k i => spec_l2Ints.l0 k a b i) ?_ ?_)
    · intro i hi hi' r hr
      refine Ev.step (fun k => by rw [spec_l2Ints.l0]) (Ev.pos (by omega) (Ev.pos (by omega) (Ev.pos (by omega) ?_)))
      rw [rd_nat _ _ hi, rd_nat _ _ hi', inc (by omega)]
      by_cases he : a[i] = b[i]
      · rw [decide_eq_true he, if_pos rfl]; exact Ev.pos he hr
      · rw [decide_eq_false he, if_neg (by simp)]; exact Ev.neg he (Ev.const rfl)
    · exact Ev.step (fun k => by rw [spec_l2Ints.l0]) (Ev.neg (by omega) (Ev.const rfl))
  · rw [if_neg h]; exact Ev.neg (by omega) (Ev.const rfl)
theorem iInts (a b : List Int) (ha : a.length ≤ 1048576) : Ev (fun k => slices_Equal_int_int.f k a b) (eI a b) := by
  unfold slices_Equal_int_int.f eI eqW
  by_cases h : a.length = b.length
  · rw [if_pos h]
    refine Ev.pos (by omega) (ez_loop _ a b h (fun k i => slices_Equal_int_int.l0 k a b (a.length : Int) i) ?_ ?_)
    · intro i hi hi' r hr
      refine Ev.step (fun k => by rw [slices_Equal_int_int.l0]) (Ev.pos (by omega) (Ev.pos (by omega) (Ev.pos (by omega) (Ev.pos (by omega) ?_))))
      rw [rd_nat _ _ hi, rd_nat _ _ hi', inc (by omega)]
      by_cases he : a[i] = b[i]
      · rw [decide_eq_true he, if_pos rfl]; exact Ev.pos he hr
      · rw [decide_eq_false he, if_neg (by simp)]; exact Ev.neg he (Ev.const rfl)
    · exact Ev.step (fun k => by rw [slices_Equal_int_int.l0]) (Ev.neg (by omega) (Ev.const rfl))
  · rw [if_neg h]; exact Ev.neg (by omega) (Ev.const rfl)
theorem sAtoms (a b : S153) (ha : bA a) : Ev (fun k => spec_EqualAtoms.f k a.f0 a.f1 b.f0 b.f1) (pA a b) := by
  unfold spec_EqualAtoms.f pA
  by_cases h : a.f0 = b.f0
  · rw [decide_eq_true h, Bool.true_and]; exact Ev.pos h (Ev.bind (sInts _ _ ha) (Ev.const rfl))
  · rw [decide_eq_false h, Bool.false_and]; exact Ev.neg h (Ev.const rfl)
theorem iAtoms (a b : S153) (ha : bA a) : Ev (fun k => impl_EqualAtoms.f k a.f0 a.f1 b.f0 b.f1) (pA a b) := by
  unfold impl_EqualAtoms.f pA
  by_cases h : a.f0 = b.f0
  · rw [decide_eq_true h, Bool.true_and]; exact Ev.pos h (Ev.bind (iInts _ _ ha) (Ev.const rfl))
  · rw [decide_eq_false h, Bool.false_and]; exact Ev.neg h (Ev.const rfl)
theorem iAtomS (a b : List S153) (hl : a.length ≤ 1048576) (ha : ∀ x ∈ a, bA x) (t : Bool) : Ev (fun k => impl_Atom.f k a b t) (eqW pA a b) := by
  unfold impl_Atom.f eqW
  by_cases h : a.length = b.length
  · rw [if_pos h]
    refine Ev.pos (by omega) (ez_loop _ a b h (fun k i => impl_Atom.l0 k b a (a.length : Int) i) ?_ ?_)
    · intro i hi hi' r hr
      refine Ev.step (fun k => by rw [impl_Atom.l0]) (Ev.pos (by omega) (Ev.pos (by omega) (Ev.pos (by omega) (Ev.pos (by omega) ?_))))
      rw [rdA_ _ _ hi, rdA_ _ _ hi', inc (by omega)]
      exact Ev.bind (iAtoms _ _ (ha _ (List.getElem_mem hi))) (Ev.if2 hr)
    · exact Ev.step (fun k => by rw [impl_Atom.l0]) (Ev.neg (by omega) (Ev.const rfl))
  · rw [if_neg h]; exact Ev.neg (by omega) (Ev.const rfl)
theorem iQueries (a b : S72) (ha : bQ a) : Ev (fun k => impl_EqualQueries.f k a.f0 a.f1 b.f0 b.f1) (pQ a b) := by
  unfold impl_EqualQueries.f pQ
  refine Ev.bind (iInts _ _ ha.1) ?_
  cases h : eI a.f0 b.f0 with
  | true => rw [Bool.true_and]; exact Ev.pos rfl (Ev.bind (iAtomS _ _ ha.2.1 ha.2.2 true) (Ev.const rfl))
  | false => rw [Bool.false_and]; exact Ev.neg (by simp) (Ev.const rfl)
theorem sQueries (a b : S72) (ha : bQ a) : Ev (fun k => spec_EqualQueries.f k a.f0 a.f1 b.f0 b.f1) (pQ a b) := by
  unfold spec_EqualQueries.f pQ
  refine Ev.bind (sInts _ _ ha.1) ?_
  cases h : eI a.f0 b.f0 with
  | true =>
    rw [Bool.true_and]
    refine Ev.pos rfl (Ev.step (fun k => by rw [spec_EqualQueries.j0]) ?_)
    unfold eqW
    by_cases hl : a.f1.length = b.f1.length
    · rw [if_pos hl]
      refine Ev.neg (by simp [hl]) (ez_loop _ a.f1 b.f1 hl (fun k i => spec_EqualQueries.l0 k i a.f0 a.f1 b.f0 b.f1) ?_ ?_)
      · intro i hi hi' r hr
        have hb := ha.2.1
        refine Ev.step (fun k => by rw [spec_EqualQueries.l0]) (Ev.pos (by omega) (Ev.pos (by omega) (Ev.pos (by omega) ?_)))
        rw [rdA_ _ _ hi, rdA_ _ _ hi', inc (by omega)]
        exact Ev.bind (sAtoms _ _ (ha.2.2 _ (List.getElem_mem hi))) (Ev.if2 hr)
      · exact Ev.step (fun k => by rw [spec_EqualQueries.l0]) (Ev.neg (by omega) (Ev.const rfl))
    · rw [if_neg hl]; exact Ev.pos (by simp; omega) (Ev.const rfl)
  | false =>
    rw [Bool.false_and]
    exact Ev.neg (by simp) (Ev.step (fun k => by rw [spec_EqualQueries.j0]) (Ev.pos rfl (Ev.const rfl)))
theorem iQueryS (a b : List S72) (hl : a.length ≤ 1048576) (ha : ∀ x ∈ a, bQ x) (t : Bool) : Ev (fun k => impl_Query.f k a b t) (eqW pQ a b) := by
  unfold impl_Query.f eqW
  by_cases h : a.length = b.length
  · rw [if_pos h]
    refine Ev.pos (by omega) (ez_loop _ a b h (fun k i => impl_Query.l0 k b a (a.length : Int) i) ?_ ?_)
    · intro i hi hi' r hr
      refine Ev.step (fun k => by rw [impl_Query.l0]) (Ev.pos (by omega) (Ev.pos (by omega) (Ev.pos (by omega) (Ev.pos (by omega) ?_))))
      rw [rdQ_ _ _ hi, rdQ_ _ _ hi', inc (by omega)]
      exact Ev.bind (iQueries _ _ (ha _ (List.getElem_mem hi))) (Ev.if2 hr)
    · exact Ev.step (fun k => by rw [impl_Query.l0]) (Ev.neg (by omega) (Ev.const rfl))
  · rw [if_neg h]; exact Ev.neg (by omega) (Ev.const rfl)
theorem iTable (a b : List (List Int)) (hl : bT a) (t : Bool) : Ev (fun k => slices_EqualFunc_int_int_int_int_97.f k a b t) (pT a b) := by
  unfold slices_EqualFunc_int_int_int_int_97.f pT eqW
  have hb := hl.1
  by_cases h : a.length = b.length
  · rw [if_pos h]
    refine Ev.pos (by omega) (ez_loop _ a b h (fun k i => slices_EqualFunc_int_int_int_int_97.l0 k b a (a.length : Int) i) ?_ ?_)
    · intro i hi hi' r hr
      refine Ev.step (fun k => by rw [slices_EqualFunc_int_int_int_int_97.l0]) (Ev.pos (by omega) (Ev.pos (by omega) (Ev.pos (by omega) (Ev.pos (by omega) ?_))))
      rw [rdR_ _ _ hi, rdR_ _ _ hi', inc (by omega)]
      exact Ev.bind (iInts _ _ (hl.2 _ (List.getElem_mem hi))) (Ev.if2 hr)
    · exact Ev.step (fun k => by rw [slices_EqualFunc_int_int_int_int_97.l0]) (Ev.neg (by omega) (Ev.const rfl))
  · rw [if_neg h]; exact Ev.neg (by omega) (Ev.const rfl)
theorem iTables (a b : List (List (List Int))) (hl : a.length ≤ 1048576) (ha : ∀ x ∈ a, bT x) (t : Bool) : Ev (fun k => slices_EqualFunc_int_int_int_int_101.f k a b t) (eqW pT a b) := by
  unfold slices_EqualFunc_int_int_int_int_101.f eqW
  by_cases h : a.length = b.length
  · rw [if_pos h]
    refine Ev.pos (by omega) (ez_loop _ a b h (fun k i => slices_EqualFunc_int_int_int_int_101.l0 k b a (a.length : Int) i) ?_ ?_)
    · intro i hi hi' r hr
      refine Ev.step (fun k => by rw [slices_EqualFunc_int_int_int_int_101.l0]) (Ev.pos (by omega) (Ev.pos (by omega) (Ev.pos (by omega) (Ev.pos (by omega) ?_))))
      rw [rdT_ _ _ hi, rdT_ _ _ hi', inc (by omega)]
      refine Ev.bind (a := pT a[i] b[i]) ?_ (Ev.if2 hr)
      unfold impl_EqualCaches_1.f
      exact Ev.bind (iTable _ _ (ha _ (List.getElem_mem hi)) true) (Ev.const rfl)
    · exact Ev.step (fun k => by rw [slices_EqualFunc_int_int_int_int_101.l0]) (Ev.neg (by omega) (Ev.const rfl))
  · rw [if_neg h]; exact Ev.neg (by omega) (Ev.const rfl)
theorem sTables (a b : List (List (List Int))) (hl : a.length ≤ 1048576) (ha : ∀ x ∈ a, bT x) : Ev (fun k => spec_l18Tables.f k a b) (eqW pT a b) := by
  unfold spec_l18Tables.f eqW
  by_cases h : a.length = b.length
  · rw [if_pos h]
    refine Ev.pos (by omega) (ez_loop _ a b h (fun k i => spec_l18Tables.l0 k a b i) ?_ ?_)
    · intro i hi hi' r hr
      refine Ev.step (fun k => by rw [spec_l18Tables.l0]) (Ev.pos (by omega) (Ev.pos (by omega) (Ev.pos (by omega) ?_)))
      rw [rdT_ _ _ hi, rdT_ _ _ hi']
      have hT := ha _ (List.getElem_mem hi)
      have hb := hT.1
      unfold pT eqW
      by_cases h2 : a[i].length = b[i].length
      · rw [if_pos h2]
        refine Ev.pos (by omega) ?_
        have key : ∀ (d j : Nat), j + d = a[i].length → Ev (fun k => spec_l18Tables.l1 k a b (i : Int) (j : Int)) (if ez eI (a[i].drop j) (b[i].drop j) = true then r else false) := by
          intro d
          induction d with
          | zero =>
            intro j hj
            obtain rfl : j = a[i].length := by omega
            have e : ez eI (a[i].drop a[i].length) (b[i].drop a[i].length) = true := by rw [List.drop_length]; rfl
            rw [e, if_pos rfl]
            refine Ev.step (fun k => by rw [spec_l18Tables.l1]) ?_
            refine Ev.pos (by omega) (Ev.pos (by omega) ?_)
            rw [rdT_ _ _ hi, inc (i := i) (by omega)]
            exact Ev.neg (by omega) hr
          | succ d ih =>
            intro j hj
            have hj1 : j < a[i].length := by omega
            have hj2 : j < b[i].length := by omega
            have e : ez eI (a[i].drop j) (b[i].drop j) = (eI a[i][j] b[i][j] && ez eI (a[i].drop (j + 1)) (b[i].drop (j + 1))) := by
              conv => lhs; rw [drop_cons hj1, drop_cons hj2, ez]
            refine Ev.step (fun k => by rw [spec_l18Tables.l1]) ?_
            refine Ev.pos (by omega) (Ev.pos (by omega) ?_)
            rw [rdT_ _ _ hi, rdT_ _ _ hi', rdR_ _ _ hj1, rdR_ _ _ hj2, inc (i := j) (by omega), e]
            refine Ev.pos (by omega) (Ev.pos (by omega) (Ev.pos (by omega) (Ev.pos (by omega) ?_)))
            refine Ev.bind (sInts _ _ (hT.2 _ (List.getElem_mem hj1))) ?_
            refine Ev.eq (Ev.if2 (ih (j + 1) (by omega))) rfl ?_
            cases eI a[i][j] b[i][j] <;> rfl
        have := key a[i].length 0 (by omega)
        simpa using this
      · rw [if_neg h2, if_neg (by simp)]
        exact Ev.neg (by omega) (Ev.const rfl)
    · exact Ev.step (fun k => by rw [spec_l18Tables.l0]) (Ev.neg (by omega) (Ev.const rfl))
  · rw [if_neg h]; exact Ev.neg (by omega) (Ev.const rfl)
def eqC (v : List S72) (t : List (List (List Int))) (n : Int) (v' : List S72) (t' : List (List (List Int))) (n' : Int) : Bool := decide (n = n') && (eqW pQ v v' && eqW pT t t')
theorem impl_eqC (v : List S72) (t : List (List (List Int))) (n : Int) (v' : List S72) (t' : List (List (List Int))) (n' : Int) (hv : v.length ≤ 1048576) (ht : t.length ≤ 1048576) (hq : ∀ x ∈ v, bQ x) (hr : ∀ x ∈ t, bT x) :
    Ev (fun k => impl_EqualCaches.f k v t n v' t' n') (eqC v t n v' t' n') := by
  unfold impl_EqualCaches.f eqC
  by_cases h : n = n'
  · rw [decide_eq_true h, Bool.true_and]
    refine Ev.pos h (Ev.bind (iQueryS _ _ hv hq true) ?_)
    cases eqW pQ v v' with
    | true => rw [Bool.true_and]; exact Ev.pos rfl (Ev.bind (iTables _ _ ht hr true) (Ev.const rfl))
    | false => rw [Bool.false_and]; exact Ev.neg (by simp) (Ev.const rfl)
  · rw [decide_eq_false h, Bool.false_and]; exact Ev.neg h (Ev.const rfl)
theorem spec_eqC (v : List S72) (t : List (List (List Int))) (n : Int) (v' : List S72) (t' : List (List (List Int))) (n' : Int) (hv : v.length ≤ 1048576) (ht : t.length ≤ 1048576) (hq : ∀ x ∈ v, bQ x) (hr : ∀ x ∈ t, bT x) :
    Ev (fun k => spec_EqualCaches.f k v t n v' t' n') (eqC v t n v' t' n') := by
  unfold spec_EqualCaches.f eqC
  have J1 : Ev (fun k => spec_EqualCaches.j0 k true v t n v' t' n') false := by
    refine Ev.step (fun k => by rw [spec_EqualCaches.j0]) ?_
    exact Ev.pos rfl (Ev.const rfl)
  by_cases h1 : v.length = v'.length
  · refine Ev.pos (by omega) ?_
    by_cases h : n = n'
    · rw [decide_eq_true h, Bool.true_and]
      refine Ev.pos h (Ev.bind (sTables _ _ ht hr) ?_)
      cases eqW pT t t' with
      | true =>
        rw [Bool.and_true]
        refine Ev.step (fun k => by rw [spec_EqualCaches.j0]) (Ev.neg (by simp) ?_)
        unfold eqW
        rw [if_pos h1]
        refine ez_loop _ v v' h1 (fun k i => spec_EqualCaches.l0 k i v t n v' t' n') ?_ ?_
        · intro i hi hi' r hr
          refine Ev.step (fun k => by rw [spec_EqualCaches.l0]) (Ev.pos (by omega) (Ev.pos (by omega) (Ev.pos (by omega) ?_)))
          rw [rdQ_ _ _ hi, rdQ_ _ _ hi', inc (by omega)]
          exact Ev.bind (sQueries _ _ (hq _ (List.getElem_mem hi))) (Ev.if2 hr)
        · exact Ev.step (fun k => by rw [spec_EqualCaches.l0]) (Ev.neg (by omega) (Ev.const rfl))
      | false => rw [Bool.and_false]; exact J1
    · rw [decide_eq_false h, Bool.false_and]; exact Ev.neg h J1
  · have e : eqW pQ v v' = false := by unfold eqW; rw [if_neg h1]
    rw [e, Bool.false_and, Bool.and_false]
    exact Ev.neg (by omega) J1
end Go.Proofs.Ytjiipeidginjnaa.PEqC

namespace Go.Proofs.Ytjiipeidginjnaa.PLaw
open Go.RowKit Go.Proofs.Ytjiipeidginjnaa.Q Go.Proofs.YtjiipeidginjnaaW.PrintWords Go.Proofs.YtjiipeidginjnaaW.PrintLast Go.Proofs.Ytjiipeidginjnaa.PB
set_option linter.unusedVariables false

def qIntS (l : List Int) : Prop := l.length ≤ 9223372036854775807 ∧ ∀ x ∈ l, (Lit.int .i64 x).wf = true
def nIntS (l : List Int) : Nat := l.length
def cIntS (l : List Int) : List Int := l
theorem szIntS (l : List Int) (a : Int) (h0 : 0 ≤ a) (h1 : a ≤ 1048576) (hl : qIntS l) : Ev (fun k => laws_szIntS.f l a) (if a < nIntS l then -1 else a - nIntS l) := by
  have hl1 := hl.1
  refine Ev.const ?_
  unfold laws_szIntS.f nIntS
  rw [w64 (by omega) (by omega)]
  by_cases h : a < l.length
  · rw [if_pos (by omega), if_pos h]
  · rw [if_neg (by omega), if_neg h]
theorem toIntS_loop (l : List Int) (hn : nIntS l ≤ 1048576) : ∀ (d i : Nat), i + d = l.length → Ev (fun k => laws_toIntS.l0 k l (cIntS (l.take i) ++ List.replicate d 0) (i : Int)) (cIntS l) := by
  have hlen : l.length ≤ 1048576 := by unfold nIntS at hn; omega
  intro d
  induction d with
  | zero =>
    intro i hi
    obtain rfl : i = l.length := by omega
    refine Ev.step (fun k => by rw [laws_toIntS.l0]) (Ev.neg (by omega) (Ev.const ?_))
    simp
  | succ d ih =>
    intro i hi
    have hlt : i < l.length := by omega
    refine Ev.step (fun k => by rw [laws_toIntS.l0]) (Ev.pos (by omega) (Ev.pos (by omega) ?_))
    rw [rd_nat _ _ hlt, inc (by omega)]
    refine Ev.pos (by simp [cIntS]; omega) ?_
    refine Ev.eq (ih (i + 1) (by omega)) ?_ rfl
    funext k
    have e : ((i : Int)).toNat = i := by omega
    have el : (cIntS (l.take i)).length = i := by simp [cIntS]; omega
    rw [e, fill_set' _ _ _ _ _ el, take_snoc hlt]
    try rfl
theorem toIntS (l : List Int) (hn : nIntS l ≤ 1048576) : Ev (fun k => laws_toIntS.f k l) (cIntS l) := by
  have h := toIntS_loop l hn l.length 0 (by omega)
  have hlen : l.length ≤ 1048576 := by unfold nIntS at hn; omega
  refine Ev.eq (Ev.pos (c := 0 ≤ (l.length : Int)) (g := fun _ => none) (by omega) (Ev.pos (c := ((l.length : Int) : Int).toNat ≤ 35184372088832) (g := fun _ => none) (by omega) h)) ?_ rfl
  funext k
  rw [laws_toIntS.f]; simp [cIntS]
theorem eqIntS_loop (l : List Int) (hl : l.length ≤ 4611686018427387000) : ∀ (d i : Nat), i + d = l.length → Ev (fun k => laws_eqIntS.l0 k l l (i : Int)) true := by
  intro d
  induction d with
  | zero =>
    intro i hi
    exact Ev.step (fun k => by rw [laws_eqIntS.l0]) (Ev.neg (by omega) (Ev.const rfl))
  | succ d ih =>
    intro i hi
    have hlt : i < l.length := by omega
    refine Ev.step (fun k => by rw [laws_eqIntS.l0]) (Ev.pos (by omega) (Ev.pos (by omega) (Ev.pos (by omega) (Ev.pos rfl ?_))))
    rw [inc (by omega)]
    exact ih (i + 1) (by omega)
theorem eqIntS (l : List Int) (hm : l.length ≤ 4611686018427387000) : Ev (fun k => laws_eqIntS.f k l l) true :=
  Ev.eq (Ev.pos (c := (l.length : Int) = l.length) (g := fun _ => some false) rfl (eqIntS_loop l hm l.length 0 (by omega))) (by funext k; rw [laws_eqIntS.f]; rfl) rfl
theorem mcIntS {l : List Int} (hn : nIntS l ≤ 1048576) : (cIntS l).length ≤ 4611686018427387000 := by unfold nIntS at hn; show l.length ≤ _; omega
end Go.Proofs.Ytjiipeidginjnaa.PLaw

namespace Go.Proofs.Ytjiipeidginjnaa.PLaw
open Go.RowKit Go.Proofs.Ytjiipeidginjnaa.Q Go.Proofs.YtjiipeidginjnaaW.PrintWords Go.Proofs.YtjiipeidginjnaaW.PrintLast Go.Proofs.Ytjiipeidginjnaa.PB
set_option linter.unusedVariables false

def qIntSS (l : List (List Int)) : Prop := l.length ≤ 9223372036854775807 ∧ ∀ x ∈ l, qIntS x
def nIntSS (l : List (List Int)) : Nat := l.length + tsum nIntS l
def cIntSS (l : List (List Int)) : List (List Int) := l.map cIntS
def mIntSS (l : List (List Int)) : Prop := l.length ≤ 4611686018427387000 ∧ ∀ x ∈ l, x.length ≤ 4611686018427387000
theorem szIntSS_loop (l : List (List Int)) (hl : l.length ≤ 1048576) (hb : ∀ x ∈ l, qIntS x) : ∀ (d i : Nat) (a : Int), i + d = l.length → 0 ≤ a → a ≤ 1048576 →
    Ev (fun k => laws_szIntSS.l0 k l a (i : Int)) (if a < tsum nIntS (l.drop i) then -1 else a - tsum nIntS (l.drop i)) := by
  intro d
  induction d with
  | zero =>
    intro i a hi h0 h1
    obtain rfl : i = l.length := by omega
    refine Ev.step (fun k => by rw [laws_szIntSS.l0]) (Ev.neg (by omega) (Ev.const ?_))
    simp [tsum]; omega
  | succ d ih =>
    intro i a hi h0 h1
    have hlt : i < l.length := by omega
    rw [drop_cons hlt, tsum_cons]
    refine Ev.step (fun k => by rw [laws_szIntSS.l0]) (Ev.pos (by omega) (Ev.pos (by omega) ?_))
    have e : rd_L1 l (i : Int) = l[i] := by rw [rd_L1]; exact getD_nat _ _ _ hlt
    rw [e, inc (by omega)]
    refine Ev.bind (szIntS l[i] a h0 h1 (hb _ (List.getElem_mem hlt))) ?_
    by_cases h : a < nIntS l[i]
    · rw [if_pos (by first | exact h | (simp only [nIntS] at h; omega))]
      refine Ev.pos (by omega) (Ev.const ?_)
      rw [if_pos (by omega)]
    · rw [if_neg (by first | exact h | (simp only [nIntS] at h; omega))]
      refine Ev.neg (by first | omega | (simp only [nIntS] at h; omega)) (Ev.eq (ih (i + 1) _ (by omega) (by first | omega | (simp only [nIntS] at h; omega)) (by omega)) rfl ?_)
      by_cases h2 : a - nIntS l[i] < tsum nIntS (l.drop (i + 1))
      · rw [if_pos (by first | exact h2 | (simp only [nIntS] at h2 ⊢; omega)), if_pos (by omega)]
      · rw [if_neg (by first | exact h2 | (simp only [nIntS] at h2 ⊢; omega)), if_neg (by omega)]; first | omega | (simp only [nIntS]; omega)
theorem szIntSS (l : List (List Int)) (a : Int) (h0 : 0 ≤ a) (h1 : a ≤ 1048576) (hq : qIntSS l) : Ev (fun k => laws_szIntSS.f k l a) (if a < nIntSS l then -1 else a - nIntSS l) := by
  have hl1 := hq.1
  have hw : wrap64 (a - (l.length : Int)) = a - l.length := w64 (by omega) (by omega)
  unfold nIntSS
  by_cases h : a < l.length
  · refine Ev.eq (Ev.const (r := -1) rfl) ?_ (by rw [if_pos (by omega)])
    funext k
    rw [laws_szIntSS.f, hw, if_pos (by omega)]
  · refine Ev.eq (szIntSS_loop l (by omega) hq.2 l.length 0 (a - l.length) (by omega) (by omega) (by omega)) ?_ ?_
    · funext k
      rw [laws_szIntSS.f, hw, if_neg (by omega)]; rfl
    · rw [List.drop_zero]
      by_cases h2 : a - l.length < tsum nIntS l
      · rw [if_pos h2, if_pos (by omega)]
      · rw [if_neg h2, if_neg (by omega)]; omega
theorem toIntSS_loop (l : List (List Int)) (hn : nIntSS l ≤ 1048576) : ∀ (d i : Nat), i + d = l.length → Ev (fun k => laws_toIntSS.l0 k l (cIntSS (l.take i) ++ List.replicate d []) (i : Int)) (cIntSS l) := by
  have hlen : l.length ≤ 1048576 := by unfold nIntSS at hn; omega
  intro d
  induction d with
  | zero =>
    intro i hi
    obtain rfl : i = l.length := by omega
    refine Ev.step (fun k => by rw [laws_toIntSS.l0]) (Ev.neg (by omega) (Ev.const ?_))
    simp
  | succ d ih =>
    intro i hi
    have hlt : i < l.length := by omega
    refine Ev.step (fun k => by rw [laws_toIntSS.l0]) (Ev.pos (by omega) (Ev.pos (by omega) ?_))
    have e : rd_L1 l (i : Int) = l[i] := by rw [rd_L1]; exact getD_nat _ _ _ hlt
    rw [e, inc (by omega)]
    have hx : nIntS l[i] ≤ 1048576 := by have := tsum_mem nIntS (List.getElem_mem hlt); unfold nIntSS at hn; omega
    refine Ev.bind (toIntS l[i] hx) (Ev.pos (by simp [cIntSS]; omega) ?_)
    refine Ev.eq (ih (i + 1) (by omega)) ?_ rfl
    funext k
    have e : ((i : Int)).toNat = i := by omega
    have el : (cIntSS (l.take i)).length = i := by simp [cIntSS]; omega
    rw [e, fill_set' _ _ _ _ _ el, take_snoc hlt]
    rw [show cIntSS (l.take i ++ [l[i]]) = cIntSS (l.take i) ++ [cIntS l[i]] from List.map_append ..]
    try rfl
theorem toIntSS (l : List (List Int)) (hn : nIntSS l ≤ 1048576) : Ev (fun k => laws_toIntSS.f k l) (cIntSS l) := by
  have h := toIntSS_loop l hn l.length 0 (by omega)
  have hlen : l.length ≤ 1048576 := by unfold nIntSS at hn; omega
  refine Ev.eq (Ev.pos (c := 0 ≤ (l.length : Int)) (g := fun _ => none) (by omega) (Ev.pos (c := ((l.length : Int) : Int).toNat ≤ 11728124029610) (g := fun _ => none) (by omega) h)) ?_ rfl
  funext k
  rw [laws_toIntSS.f]; simp [cIntSS]
theorem eqIntSS_loop (l : List (List Int)) (hl : l.length ≤ 4611686018427387000) (hb : ∀ x ∈ l, x.length ≤ 4611686018427387000) : ∀ (d i : Nat), i + d = l.length → Ev (fun k => laws_eqIntSS.l0 k l l (i : Int)) true := by
  intro d
  induction d with
  | zero =>
    intro i hi
    exact Ev.step (fun k => by rw [laws_eqIntSS.l0]) (Ev.neg (by omega) (Ev.const rfl))
  | succ d ih =>
    intro i hi
    have hlt : i < l.length := by omega
    refine Ev.step (fun k => by rw [laws_eqIntSS.l0]) (Ev.pos (by omega) (Ev.pos (by omega) (Ev.pos (by omega) ?_)))
    have e : rd_L1 l (i : Int) = l[i] := by rw [rd_L1]; exact getD_nat _ _ _ hlt
    rw [e, inc (by omega)]
    exact Ev.bind (eqIntS l[i] (hb _ (List.getElem_mem hlt))) (Ev.pos rfl (ih (i + 1) (by omega)))
theorem eqIntSS (l : List (List Int)) (hm : mIntSS l) : Ev (fun k => laws_eqIntSS.f k l l) true :=
  Ev.eq (Ev.pos (c := (l.length : Int) = l.length) (g := fun _ => some false) rfl (eqIntSS_loop l hm.1 hm.2 l.length 0 (by omega))) (by funext k; rw [laws_eqIntSS.f]; rfl) rfl
theorem mcIntSS {l : List (List Int)} (hn : nIntSS l ≤ 1048576) : mIntSS (cIntSS l) := by
  unfold nIntSS at hn
  refine ⟨by simp [cIntSS]; omega, fun x hx => ?_⟩
  obtain ⟨y, hy, rfl⟩ := List.mem_map.1 hx
  have := tsum_mem nIntS hy
  exact mcIntS (by omega)
end Go.Proofs.Ytjiipeidginjnaa.PLaw

namespace Go.Proofs.Ytjiipeidginjnaa.PLaw
open Go.RowKit Go.Proofs.Ytjiipeidginjnaa.Q Go.Proofs.YtjiipeidginjnaaW.PrintWords Go.Proofs.YtjiipeidginjnaaW.PrintLast Go.Proofs.Ytjiipeidginjnaa.PB
set_option linter.unusedVariables false

def qIntSSS (l : List (List (List Int))) : Prop := l.length ≤ 9223372036854775807 ∧ ∀ x ∈ l, qIntSS x
def nIntSSS (l : List (List (List Int))) : Nat := l.length + tsum nIntSS l
def cIntSSS (l : List (List (List Int))) : List (List (List Int)) := l.map cIntSS
def mIntSSS (l : List (List (List Int))) : Prop := l.length ≤ 4611686018427387000 ∧ ∀ x ∈ l, mIntSS x
theorem szIntSSS_loop (l : List (List (List Int))) (hl : l.length ≤ 1048576) (hb : ∀ x ∈ l, qIntSS x) : ∀ (d i : Nat) (a : Int), i + d = l.length → 0 ≤ a → a ≤ 1048576 →
    Ev (fun k => laws_szIntSSS.l0 k l a (i : Int)) (if a < tsum nIntSS (l.drop i) then -1 else a - tsum nIntSS (l.drop i)) := by
  intro d
  induction d with
  | zero =>
    intro i a hi h0 h1
    obtain rfl : i = l.length := by omega
    refine Ev.step (fun k => by rw [laws_szIntSSS.l0]) (Ev.neg (by omega) (Ev.const ?_))
    simp [tsum]; omega
  | succ d ih =>
    intro i a hi h0 h1
    have hlt : i < l.length := by omega
    rw [drop_cons hlt, tsum_cons]
    refine Ev.step (fun k => by rw [laws_szIntSSS.l0]) (Ev.pos (by omega) (Ev.pos (by omega) ?_))
    have e : rd_L5 l (i : Int) = l[i] := by rw [rd_L5]; exact getD_nat _ _ _ hlt
    rw [e, inc (by omega)]
    refine Ev.bind (szIntSS l[i] a h0 h1 (hb _ (List.getElem_mem hlt))) ?_
    by_cases h : a < nIntSS l[i]
    · rw [if_pos (by first | exact h | (simp only [nIntSS] at h; omega))]
      refine Ev.pos (by omega) (Ev.const ?_)
      rw [if_pos (by omega)]
    · rw [if_neg (by first | exact h | (simp only [nIntSS] at h; omega))]
      refine Ev.neg (by first | omega | (simp only [nIntSS] at h; omega)) (Ev.eq (ih (i + 1) _ (by omega) (by first | omega | (simp only [nIntSS] at h; omega)) (by omega)) rfl ?_)
      by_cases h2 : a - nIntSS l[i] < tsum nIntSS (l.drop (i + 1))
      · rw [if_pos (by first | exact h2 | (simp only [nIntSS] at h2 ⊢; omega)), if_pos (by omega)]
      · rw [if_neg (by first | exact h2 | (simp only [nIntSS] at h2 ⊢; omega)), if_neg (by omega)]; first | omega | (simp only [nIntSS]; omega)
theorem szIntSSS (l : List (List (List Int))) (a : Int) (h0 : 0 ≤ a) (h1 : a ≤ 1048576) (hq : qIntSSS l) : Ev (fun k => laws_szIntSSS.f k l a) (if a < nIntSSS l then -1 else a - nIntSSS l) := by
  have hl1 := hq.1
  have hw : wrap64 (a - (l.length : Int)) = a - l.length := w64 (by omega) (by omega)
  unfold nIntSSS
  by_cases h : a < l.length
  · refine Ev.eq (Ev.const (r := -1) rfl) ?_ (by rw [if_pos (by omega)])
    funext k
    rw [laws_szIntSSS.f, hw, if_pos (by omega)]
  · refine Ev.eq (szIntSSS_loop l (by omega) hq.2 l.length 0 (a - l.length) (by omega) (by omega) (by omega)) ?_ ?_
    · funext k
      rw [laws_szIntSSS.f, hw, if_neg (by omega)]; rfl
    · rw [List.drop_zero]
      by_cases h2 : a - l.length < tsum nIntSS l
      · rw [if_pos h2, if_pos (by omega)]
      · rw [if_neg h2, if_neg (by omega)]; omega
theorem toIntSSS_loop (l : List (List (List Int))) (hn : nIntSSS l ≤ 1048576) : ∀ (d i : Nat), i + d = l.length → Ev (fun k => laws_toIntSSS.l0 k l (cIntSSS (l.take i) ++ List.replicate d []) (i : Int)) (cIntSSS l) := by
  have hlen : l.length ≤ 1048576 := by unfold nIntSSS at hn; omega
  intro d
  induction d with
  | zero =>
    intro i hi
    obtain rfl : i = l.length := by omega
    refine Ev.step (fun k => by rw [laws_toIntSSS.l0]) (Ev.neg (by omega) (Ev.const ?_))
    simp
  | succ d ih =>
    intro i hi
    have hlt : i < l.length := by omega
    refine Ev.step (fun k => by rw [laws_toIntSSS.l0]) (Ev.pos (by omega) (Ev.pos (by omega) ?_))
    have e : rd_L5 l (i : Int) = l[i] := by rw [rd_L5]; exact getD_nat _ _ _ hlt
    rw [e, inc (by omega)]
    have hx : nIntSS l[i] ≤ 1048576 := by have := tsum_mem nIntSS (List.getElem_mem hlt); unfold nIntSSS at hn; omega
    refine Ev.bind (toIntSS l[i] hx) (Ev.pos (by simp [cIntSSS]; omega) ?_)
    refine Ev.eq (ih (i + 1) (by omega)) ?_ rfl
    funext k
    have e : ((i : Int)).toNat = i := by omega
    have el : (cIntSSS (l.take i)).length = i := by simp [cIntSSS]; omega
    rw [e, fill_set' _ _ _ _ _ el, take_snoc hlt]
    rw [show cIntSSS (l.take i ++ [l[i]]) = cIntSSS (l.take i) ++ [cIntSS l[i]] from List.map_append ..]
    try rfl
theorem toIntSSS (l : List (List (List Int))) (hn : nIntSSS l ≤ 1048576) : Ev (fun k => laws_toIntSSS.f k l) (cIntSSS l) := by
  have h := toIntSSS_loop l hn l.length 0 (by omega)
  have hlen : l.length ≤ 1048576 := by unfold nIntSSS at hn; omega
  refine Ev.eq (Ev.pos (c := 0 ≤ (l.length : Int)) (g := fun _ => none) (by omega) (Ev.pos (c := ((l.length : Int) : Int).toNat ≤ 11728124029610) (g := fun _ => none) (by omega) h)) ?_ rfl
  funext k
  rw [laws_toIntSSS.f]; simp [cIntSSS]
theorem eqIntSSS_loop (l : List (List (List Int))) (hl : l.length ≤ 4611686018427387000) (hb : ∀ x ∈ l, mIntSS x) : ∀ (d i : Nat), i + d = l.length → Ev (fun k => laws_eqIntSSS.l0 k l l (i : Int)) true := by
  intro d
  induction d with
  | zero =>
    intro i hi
    exact Ev.step (fun k => by rw [laws_eqIntSSS.l0]) (Ev.neg (by omega) (Ev.const rfl))
  | succ d ih =>
    intro i hi
    have hlt : i < l.length := by omega
    refine Ev.step (fun k => by rw [laws_eqIntSSS.l0]) (Ev.pos (by omega) (Ev.pos (by omega) (Ev.pos (by omega) ?_)))
    have e : rd_L5 l (i : Int) = l[i] := by rw [rd_L5]; exact getD_nat _ _ _ hlt
    rw [e, inc (by omega)]
    exact Ev.bind (eqIntSS l[i] (hb _ (List.getElem_mem hlt))) (Ev.pos rfl (ih (i + 1) (by omega)))
theorem eqIntSSS (l : List (List (List Int))) (hm : mIntSSS l) : Ev (fun k => laws_eqIntSSS.f k l l) true :=
  Ev.eq (Ev.pos (c := (l.length : Int) = l.length) (g := fun _ => some false) rfl (eqIntSSS_loop l hm.1 hm.2 l.length 0 (by omega))) (by funext k; rw [laws_eqIntSSS.f]; rfl) rfl
theorem mcIntSSS {l : List (List (List Int))} (hn : nIntSSS l ≤ 1048576) : mIntSSS (cIntSSS l) := by
  unfold nIntSSS at hn
  refine ⟨by simp [cIntSSS]; omega, fun x hx => ?_⟩
  obtain ⟨y, hy, rfl⟩ := List.mem_map.1 hx
  have := tsum_mem nIntSS hy
  exact mcIntSS (by omega)
end Go.Proofs.Ytjiipeidginjnaa.PLaw

namespace Go.Proofs.Ytjiipeidginjnaa.PLaw
open Go.RowKit Go.Proofs.Ytjiipeidginjnaa.Q Go.Proofs.YtjiipeidginjnaaW.PrintWords Go.Proofs.YtjiipeidginjnaaW.PrintLast Go.Proofs.Ytjiipeidginjnaa.PB
set_option linter.unusedVariables false

def qAtom (x : S175) : Prop := ((Lit.int .i64 x.f0).wf = true) ∧ (qIntS x.f1)
def nAtom (x : S175) : Nat := nIntS x.f1
def cAtom (x : S175) : S153 := ⟨x.f0, cIntS x.f1⟩
def qAtomS (l : List S175) : Prop := l.length ≤ 9223372036854775807 ∧ ∀ x ∈ l, qAtom x
def nAtomS (l : List S175) : Nat := l.length + tsum nAtom l
def cAtomS (l : List S175) : List S153 := l.map cAtom
def mAtom (x : S153) : Prop := (True) ∧ (x.f1.length ≤ 4611686018427387000)
def mAtomS (l : List S153) : Prop := l.length ≤ 4611686018427387000 ∧ ∀ x ∈ l, mAtom x
theorem szAtom (x0 : Int) (x1 : List Int) (a : Int) (h0 : 0 ≤ a) (h1 : a ≤ 1048576) (qx0_ : (Lit.int .i64 x0).wf = true) (qx1_ : qIntS x1) : Ev (fun k => laws_szAtom.f x0 x1 a) (if a < ((nIntS x1 : Nat) : Int) then -1 else a - ((nIntS x1 : Nat) : Int)) := by
  unfold laws_szAtom.f
  have g0 : a ≤ 1048576 := by first | omega | exact h1
  refine Ev.bind (szIntS x1 a (by omega) (by omega) qx1_) ?_
  by_cases c0 : a < ((nIntS x1 : Nat) : Int)
  · rw [if_pos c0]
    exact Ev.pos (by omega) (Ev.const (by first | rfl | rw [if_pos (by omega)]))
  rw [if_neg c0]
  refine Ev.neg (by omega) ?_
  have e0 : a - ((nIntS x1 : Nat) : Int) = (a - ((nIntS x1 : Nat) : Int)) := by omega
  rw [e0]
  exact Ev.const (by first | rfl | rw [if_neg (by omega)])
theorem szAtomS_loop (l : List S175) (hl : l.length ≤ 1048576) (hb : ∀ x ∈ l, qAtom x) : ∀ (d i : Nat) (a : Int), i + d = l.length → 0 ≤ a → a ≤ 1048576 →
    Ev (fun k => laws_szAtomS.l0 k l a (i : Int)) (if a < tsum nAtom (l.drop i) then -1 else a - tsum nAtom (l.drop i)) := by
  intro d
  induction d with
  | zero =>
    intro i a hi h0 h1
    obtain rfl : i = l.length := by omega
    refine Ev.step (fun k => by rw [laws_szAtomS.l0]) (Ev.neg (by omega) (Ev.const ?_))
    simp [tsum]; omega
  | succ d ih =>
    intro i a hi h0 h1
    have hlt : i < l.length := by omega
    rw [drop_cons hlt, tsum_cons]
    refine Ev.step (fun k => by rw [laws_szAtomS.l0]) (Ev.pos (by omega) (Ev.pos (by omega) ?_))
    have e : rd_T175 l (i : Int) = l[i] := by rw [rd_T175]; exact getD_nat _ _ _ hlt
    rw [e, inc (by omega)]
    refine Ev.bind (szAtom (l[i].f0) (l[i].f1) a h0 h1 (hb _ (List.getElem_mem hlt)).1 (hb _ (List.getElem_mem hlt)).2) ?_
    by_cases h : a < nAtom l[i]
    · rw [if_pos (by first | exact h | (simp only [nAtom] at h; omega))]
      refine Ev.pos (by omega) (Ev.const ?_)
      rw [if_pos (by omega)]
    · rw [if_neg (by first | exact h | (simp only [nAtom] at h; omega))]
      refine Ev.neg (by first | omega | (simp only [nAtom] at h; omega)) (Ev.eq (ih (i + 1) _ (by omega) (by first | omega | (simp only [nAtom] at h; omega)) (by omega)) rfl ?_)
      by_cases h2 : a - nAtom l[i] < tsum nAtom (l.drop (i + 1))
      · rw [if_pos (by first | exact h2 | (simp only [nAtom] at h2 ⊢; omega)), if_pos (by omega)]
      · rw [if_neg (by first | exact h2 | (simp only [nAtom] at h2 ⊢; omega)), if_neg (by omega)]; first | omega | (simp only [nAtom]; omega)
theorem szAtomS (l : List S175) (a : Int) (h0 : 0 ≤ a) (h1 : a ≤ 1048576) (hq : qAtomS l) : Ev (fun k => laws_szAtomS.f k l a) (if a < nAtomS l then -1 else a - nAtomS l) := by
  have hl1 := hq.1
  have hw : wrap64 (a - (l.length : Int)) = a - l.length := w64 (by omega) (by omega)
  unfold nAtomS
  by_cases h : a < l.length
  · refine Ev.eq (Ev.const (r := -1) rfl) ?_ (by rw [if_pos (by omega)])
    funext k
    rw [laws_szAtomS.f, hw, if_pos (by omega)]
  · refine Ev.eq (szAtomS_loop l (by omega) hq.2 l.length 0 (a - l.length) (by omega) (by omega) (by omega)) ?_ ?_
    · funext k
      rw [laws_szAtomS.f, hw, if_neg (by omega)]; rfl
    · rw [List.drop_zero]
      by_cases h2 : a - l.length < tsum nAtom l
      · rw [if_pos h2, if_pos (by omega)]
      · rw [if_neg h2, if_neg (by omega)]; omega
theorem toAtom (x0 : Int) (x1 : List Int) (hn : nIntS x1 ≤ 1048576) : Ev (fun k => laws_toAtom.f k x0 x1) (x0, cIntS x1) := by
  unfold laws_toAtom.f
  refine Ev.bind (toIntS x1 (by omega)) ?_
  exact Ev.const rfl
theorem toAtomS_loop (l : List S175) (hn : nAtomS l ≤ 1048576) : ∀ (d i : Nat), i + d = l.length → Ev (fun k => laws_toAtomS.l0 k l (cAtomS (l.take i) ++ List.replicate d z153) (i : Int)) (cAtomS l) := by
  have hlen : l.length ≤ 1048576 := by unfold nAtomS at hn; omega
  intro d
  induction d with
  | zero =>
    intro i hi
    obtain rfl : i = l.length := by omega
    refine Ev.step (fun k => by rw [laws_toAtomS.l0]) (Ev.neg (by omega) (Ev.const ?_))
    simp
  | succ d ih =>
    intro i hi
    have hlt : i < l.length := by omega
    refine Ev.step (fun k => by rw [laws_toAtomS.l0]) (Ev.pos (by omega) (Ev.pos (by omega) ?_))
    have e : rd_T175 l (i : Int) = l[i] := by rw [rd_T175]; exact getD_nat _ _ _ hlt
    rw [e, inc (by omega)]
    have hx : nAtom l[i] ≤ 1048576 := by have := tsum_mem nAtom (List.getElem_mem hlt); unfold nAtomS at hn; omega
    refine Ev.bind (toAtom (l[i].f0) (l[i].f1) hx) (Ev.pos (by simp [cAtomS]; omega) ?_)
    refine Ev.eq (ih (i + 1) (by omega)) ?_ rfl
    funext k
    have e : ((i : Int)).toNat = i := by omega
    have el : (cAtomS (l.take i)).length = i := by simp [cAtomS]; omega
    rw [e, fill_set' _ _ _ _ _ el, take_snoc hlt]
    rw [show cAtomS (l.take i ++ [l[i]]) = cAtomS (l.take i) ++ [cAtom l[i]] from List.map_append ..]
    try rfl
theorem toAtomS (l : List S175) (hn : nAtomS l ≤ 1048576) : Ev (fun k => laws_toAtomS.f k l) (cAtomS l) := by
  have h := toAtomS_loop l hn l.length 0 (by omega)
  have hlen : l.length ≤ 1048576 := by unfold nAtomS at hn; omega
  refine Ev.eq (Ev.pos (c := 0 ≤ (l.length : Int)) (g := fun _ => none) (by omega) (Ev.pos (c := ((l.length : Int) : Int).toNat ≤ 8796093022208) (g := fun _ => none) (by omega) h)) ?_ rfl
  funext k
  rw [laws_toAtomS.f]; simp [cAtomS]
theorem eqAtom (x0 : Int) (x1 : List Int) (mx1_ : x1.length ≤ 4611686018427387000) : Ev (fun k => laws_eqAtom.f k x0 x1 x0 x1) true := by
  unfold laws_eqAtom.f
  first | refine Ev.pos rfl ?_ | skip
  refine Ev.bind (eqIntS x1 mx1_) (Ev.pos rfl ?_)
  exact Ev.const rfl
theorem eqAtomS_loop (l : List S153) (hl : l.length ≤ 4611686018427387000) (hb : ∀ x ∈ l, mAtom x) : ∀ (d i : Nat), i + d = l.length → Ev (fun k => laws_eqAtomS.l0 k l l (i : Int)) true := by
  intro d
  induction d with
  | zero =>
    intro i hi
    exact Ev.step (fun k => by rw [laws_eqAtomS.l0]) (Ev.neg (by omega) (Ev.const rfl))
  | succ d ih =>
    intro i hi
    have hlt : i < l.length := by omega
    refine Ev.step (fun k => by rw [laws_eqAtomS.l0]) (Ev.pos (by omega) (Ev.pos (by omega) (Ev.pos (by omega) ?_)))
    have e : rd_T153 l (i : Int) = l[i] := by rw [rd_T153]; exact getD_nat _ _ _ hlt
    rw [e, inc (by omega)]
    exact Ev.bind (eqAtom (l[i].f0) (l[i].f1) ((hb _ (List.getElem_mem hlt)).2)) (Ev.pos rfl (ih (i + 1) (by omega)))
theorem eqAtomS (l : List S153) (hm : mAtomS l) : Ev (fun k => laws_eqAtomS.f k l l) true :=
  Ev.eq (Ev.pos (c := (l.length : Int) = l.length) (g := fun _ => some false) rfl (eqAtomS_loop l hm.1 hm.2 l.length 0 (by omega))) (by funext k; rw [laws_eqAtomS.f]; rfl) rfl
theorem mcAtom {x : S175} (hn : nAtom x ≤ 1048576) : mAtom (cAtom x) := by
  unfold nAtom at hn
  exact ⟨trivial, mcIntS (l := x.f1) (by omega)⟩
theorem mcAtomS {l : List S175} (hn : nAtomS l ≤ 1048576) : mAtomS (cAtomS l) := by
  unfold nAtomS at hn
  refine ⟨by simp [cAtomS]; omega, fun x hx => ?_⟩
  obtain ⟨y, hy, rfl⟩ := List.mem_map.1 hx
  have := tsum_mem nAtom hy
  exact mcAtom (by omega)
end Go.Proofs.Ytjiipeidginjnaa.PLaw

namespace Go.Proofs.Ytjiipeidginjnaa.PLaw
open Go.RowKit Go.Proofs.Ytjiipeidginjnaa.Q Go.Proofs.YtjiipeidginjnaaW.PrintWords Go.Proofs.YtjiipeidginjnaaW.PrintLast Go.Proofs.Ytjiipeidginjnaa.PB
set_option linter.unusedVariables false

def qQuery (x : S65) : Prop := (qIntS x.f0) ∧ (qAtomS x.f1)
def nQuery (x : S65) : Nat := nIntS x.f0 + nAtomS x.f1
def cQuery (x : S65) : S72 := ⟨cIntS x.f0, cAtomS x.f1⟩
def qQueryS (l : List S65) : Prop := l.length ≤ 9223372036854775807 ∧ ∀ x ∈ l, qQuery x
def nQueryS (l : List S65) : Nat := l.length + tsum nQuery l
def cQueryS (l : List S65) : List S72 := l.map cQuery
def mQuery (x : S72) : Prop := (x.f0.length ≤ 4611686018427387000) ∧ (mAtomS x.f1)
def mQueryS (l : List S72) : Prop := l.length ≤ 4611686018427387000 ∧ ∀ x ∈ l, mQuery x
theorem szQuery (x0 : List Int) (x1 : List S175) (a : Int) (h0 : 0 ≤ a) (h1 : a ≤ 1048576) (qx0_ : qIntS x0) (qx1_ : qAtomS x1) : Ev (fun k => laws_szQuery.f k x0 x1 a) (if a < ((nIntS x0 + nAtomS x1 : Nat) : Int) then -1 else a - ((nIntS x0 + nAtomS x1 : Nat) : Int)) := by
  unfold laws_szQuery.f
  have g0 : a ≤ 1048576 := by first | omega | exact h1
  refine Ev.bind (szIntS x0 a (by omega) (by omega) qx0_) ?_
  by_cases c0 : a < ((nIntS x0 : Nat) : Int)
  · rw [if_pos c0]
    exact Ev.pos (by omega) (Ev.const (by first | rfl | rw [if_pos (by omega)]))
  rw [if_neg c0]
  refine Ev.neg (by omega) ?_
  have e0 : a - ((nIntS x0 : Nat) : Int) = (a - ((nIntS x0 : Nat) : Int)) := by omega
  rw [e0]
  have g1 : (a - ((nIntS x0 : Nat) : Int)) ≤ 1048576 := by first | omega | exact h1
  refine Ev.bind (szAtomS x1 (a - ((nIntS x0 : Nat) : Int)) (by omega) (by omega) qx1_) ?_
  by_cases c1 : (a - ((nIntS x0 : Nat) : Int)) < ((nAtomS x1 : Nat) : Int)
  · rw [if_pos c1]
    exact Ev.pos (by omega) (Ev.const (by first | rfl | rw [if_pos (by omega)]))
  rw [if_neg c1]
  refine Ev.neg (by omega) ?_
  have e1 : (a - ((nIntS x0 : Nat) : Int)) - ((nAtomS x1 : Nat) : Int) = (a - ((nIntS x0 + nAtomS x1 : Nat) : Int)) := by omega
  rw [e1]
  exact Ev.const (by first | rfl | rw [if_neg (by omega)])
theorem szQueryS_loop (l : List S65) (hl : l.length ≤ 1048576) (hb : ∀ x ∈ l, qQuery x) : ∀ (d i : Nat) (a : Int), i + d = l.length → 0 ≤ a → a ≤ 1048576 →
    Ev (fun k => laws_szQueryS.l0 k l a (i : Int)) (if a < tsum nQuery (l.drop i) then -1 else a - tsum nQuery (l.drop i)) := by
  intro d
  induction d with
  | zero =>
    intro i a hi h0 h1
    obtain rfl : i = l.length := by omega
    refine Ev.step (fun k => by rw [laws_szQueryS.l0]) (Ev.neg (by omega) (Ev.const ?_))
    simp [tsum]; omega
  | succ d ih =>
    intro i a hi h0 h1
    have hlt : i < l.length := by omega
    rw [drop_cons hlt, tsum_cons]
    refine Ev.step (fun k => by rw [laws_szQueryS.l0]) (Ev.pos (by omega) (Ev.pos (by omega) ?_))
    have e : rd_T65 l (i : Int) = l[i] := by rw [rd_T65]; exact getD_nat _ _ _ hlt
    rw [e, inc (by omega)]
    refine Ev.bind (szQuery (l[i].f0) (l[i].f1) a h0 h1 (hb _ (List.getElem_mem hlt)).1 (hb _ (List.getElem_mem hlt)).2) ?_
    by_cases h : a < nQuery l[i]
    · rw [if_pos (by first | exact h | (simp only [nQuery] at h; omega))]
      refine Ev.pos (by omega) (Ev.const ?_)
      rw [if_pos (by omega)]
    · rw [if_neg (by first | exact h | (simp only [nQuery] at h; omega))]
      refine Ev.neg (by first | omega | (simp only [nQuery] at h; omega)) (Ev.eq (ih (i + 1) _ (by omega) (by first | omega | (simp only [nQuery] at h; omega)) (by omega)) rfl ?_)
      by_cases h2 : a - nQuery l[i] < tsum nQuery (l.drop (i + 1))
      · rw [if_pos (by first | exact h2 | (simp only [nQuery] at h2 ⊢; omega)), if_pos (by omega)]
      · rw [if_neg (by first | exact h2 | (simp only [nQuery] at h2 ⊢; omega)), if_neg (by omega)]; first | omega | (simp only [nQuery]; omega)
theorem szQueryS (l : List S65) (a : Int) (h0 : 0 ≤ a) (h1 : a ≤ 1048576) (hq : qQueryS l) : Ev (fun k => laws_szQueryS.f k l a) (if a < nQueryS l then -1 else a - nQueryS l) := by
  have hl1 := hq.1
  have hw : wrap64 (a - (l.length : Int)) = a - l.length := w64 (by omega) (by omega)
  unfold nQueryS
  by_cases h : a < l.length
  · refine Ev.eq (Ev.const (r := -1) rfl) ?_ (by rw [if_pos (by omega)])
    funext k
    rw [laws_szQueryS.f, hw, if_pos (by omega)]
  · refine Ev.eq (szQueryS_loop l (by omega) hq.2 l.length 0 (a - l.length) (by omega) (by omega) (by omega)) ?_ ?_
    · funext k
      rw [laws_szQueryS.f, hw, if_neg (by omega)]; rfl
    · rw [List.drop_zero]
      by_cases h2 : a - l.length < tsum nQuery l
      · rw [if_pos h2, if_pos (by omega)]
      · rw [if_neg h2, if_neg (by omega)]; omega
theorem toQuery (x0 : List Int) (x1 : List S175) (hn : nIntS x0 + nAtomS x1 ≤ 1048576) : Ev (fun k => laws_toQuery.f k x0 x1) (cIntS x0, cAtomS x1) := by
  unfold laws_toQuery.f
  refine Ev.bind (toIntS x0 (by omega)) ?_
  refine Ev.bind (toAtomS x1 (by omega)) ?_
  exact Ev.const rfl
theorem toQueryS_loop (l : List S65) (hn : nQueryS l ≤ 1048576) : ∀ (d i : Nat), i + d = l.length → Ev (fun k => laws_toQueryS.l0 k l (cQueryS (l.take i) ++ List.replicate d z72) (i : Int)) (cQueryS l) := by
  have hlen : l.length ≤ 1048576 := by unfold nQueryS at hn; omega
  intro d
  induction d with
  | zero =>
    intro i hi
    obtain rfl : i = l.length := by omega
    refine Ev.step (fun k => by rw [laws_toQueryS.l0]) (Ev.neg (by omega) (Ev.const ?_))
    simp
  | succ d ih =>
    intro i hi
    have hlt : i < l.length := by omega
    refine Ev.step (fun k => by rw [laws_toQueryS.l0]) (Ev.pos (by omega) (Ev.pos (by omega) ?_))
    have e : rd_T65 l (i : Int) = l[i] := by rw [rd_T65]; exact getD_nat _ _ _ hlt
    rw [e, inc (by omega)]
    have hx : nQuery l[i] ≤ 1048576 := by have := tsum_mem nQuery (List.getElem_mem hlt); unfold nQueryS at hn; omega
    refine Ev.bind (toQuery (l[i].f0) (l[i].f1) hx) (Ev.pos (by simp [cQueryS]; omega) ?_)
    refine Ev.eq (ih (i + 1) (by omega)) ?_ rfl
    funext k
    have e : ((i : Int)).toNat = i := by omega
    have el : (cQueryS (l.take i)).length = i := by simp [cQueryS]; omega
    rw [e, fill_set' _ _ _ _ _ el, take_snoc hlt]
    rw [show cQueryS (l.take i ++ [l[i]]) = cQueryS (l.take i) ++ [cQuery l[i]] from List.map_append ..]
    try rfl
theorem toQueryS (l : List S65) (hn : nQueryS l ≤ 1048576) : Ev (fun k => laws_toQueryS.f k l) (cQueryS l) := by
  have h := toQueryS_loop l hn l.length 0 (by omega)
  have hlen : l.length ≤ 1048576 := by unfold nQueryS at hn; omega
  refine Ev.eq (Ev.pos (c := 0 ≤ (l.length : Int)) (g := fun _ => none) (by omega) (Ev.pos (c := ((l.length : Int) : Int).toNat ≤ 5864062014805) (g := fun _ => none) (by omega) h)) ?_ rfl
  funext k
  rw [laws_toQueryS.f]; simp [cQueryS]
theorem eqQuery (x0 : List Int) (x1 : List S153) (mx0_ : x0.length ≤ 4611686018427387000) (mx1_ : mAtomS x1) : Ev (fun k => laws_eqQuery.f k x0 x1 x0 x1) true := by
  unfold laws_eqQuery.f
  refine Ev.bind (eqIntS x0 mx0_) (Ev.pos rfl ?_)
  refine Ev.bind (eqAtomS x1 mx1_) (Ev.pos rfl ?_)
  exact Ev.const rfl
theorem eqQueryS_loop (l : List S72) (hl : l.length ≤ 4611686018427387000) (hb : ∀ x ∈ l, mQuery x) : ∀ (d i : Nat), i + d = l.length → Ev (fun k => laws_eqQueryS.l0 k l l (i : Int)) true := by
  intro d
  induction d with
  | zero =>
    intro i hi
    exact Ev.step (fun k => by rw [laws_eqQueryS.l0]) (Ev.neg (by omega) (Ev.const rfl))
  | succ d ih =>
    intro i hi
    have hlt : i < l.length := by omega
    refine Ev.step (fun k => by rw [laws_eqQueryS.l0]) (Ev.pos (by omega) (Ev.pos (by omega) (Ev.pos (by omega) ?_)))
    have e : rd_T72 l (i : Int) = l[i] := by rw [rd_T72]; exact getD_nat _ _ _ hlt
    rw [e, inc (by omega)]
    exact Ev.bind (eqQuery (l[i].f0) (l[i].f1) ((hb _ (List.getElem_mem hlt)).1) ((hb _ (List.getElem_mem hlt)).2)) (Ev.pos rfl (ih (i + 1) (by omega)))
theorem eqQueryS (l : List S72) (hm : mQueryS l) : Ev (fun k => laws_eqQueryS.f k l l) true :=
  Ev.eq (Ev.pos (c := (l.length : Int) = l.length) (g := fun _ => some false) rfl (eqQueryS_loop l hm.1 hm.2 l.length 0 (by omega))) (by funext k; rw [laws_eqQueryS.f]; rfl) rfl
theorem mcQuery {x : S65} (hn : nQuery x ≤ 1048576) : mQuery (cQuery x) := by
  unfold nQuery at hn
  exact ⟨mcIntS (l := x.f0) (by omega), mcAtomS (l := x.f1) (by omega)⟩
theorem mcQueryS {l : List S65} (hn : nQueryS l ≤ 1048576) : mQueryS (cQueryS l) := by
  unfold nQueryS at hn
  refine ⟨by simp [cQueryS]; omega, fun x hx => ?_⟩
  obtain ⟨y, hy, rfl⟩ := List.mem_map.1 hx
  have := tsum_mem nQuery hy
  exact mcQuery (by omega)
end Go.Proofs.Ytjiipeidginjnaa.PLaw

namespace Go.Proofs.Ytjiipeidginjnaa.PLaw
open Go.RowKit Go.Proofs.Ytjiipeidginjnaa.Q Go.Proofs.YtjiipeidginjnaaW.PrintWords Go.Proofs.YtjiipeidginjnaaW.PrintLast Go.Proofs.Ytjiipeidginjnaa.PB
set_option linter.unusedVariables false

theorem szCache (x0 : List S65) (x1 : List (List (List Int))) (x2 : Int) (a : Int) (h0 : 0 ≤ a) (h1 : a ≤ 1048576) (qx0_ : qQueryS x0) (qx1_ : qIntSSS x1) (qx2_ : (Lit.int .i64 x2).wf = true) : Ev (fun k => laws_szCache.f k x0 x1 x2 a) (if a < ((nQueryS x0 + nIntSSS x1 : Nat) : Int) then -1 else a - ((nQueryS x0 + nIntSSS x1 : Nat) : Int)) := by
  unfold laws_szCache.f
  have g0 : a ≤ 1048576 := by first | omega | exact h1
  refine Ev.bind (szQueryS x0 a (by omega) (by omega) qx0_) ?_
  by_cases c0 : a < ((nQueryS x0 : Nat) : Int)
  · rw [if_pos c0]
    exact Ev.pos (by omega) (Ev.const (by first | rfl | rw [if_pos (by omega)]))
  rw [if_neg c0]
  refine Ev.neg (by omega) ?_
  have e0 : a - ((nQueryS x0 : Nat) : Int) = (a - ((nQueryS x0 : Nat) : Int)) := by omega
  rw [e0]
  have g1 : (a - ((nQueryS x0 : Nat) : Int)) ≤ 1048576 := by first | omega | exact h1
  refine Ev.bind (szIntSSS x1 (a - ((nQueryS x0 : Nat) : Int)) (by omega) (by omega) qx1_) ?_
  by_cases c1 : (a - ((nQueryS x0 : Nat) : Int)) < ((nIntSSS x1 : Nat) : Int)
  · rw [if_pos c1]
    exact Ev.pos (by omega) (Ev.const (by first | rfl | rw [if_pos (by omega)]))
  rw [if_neg c1]
  refine Ev.neg (by omega) ?_
  have e1 : (a - ((nQueryS x0 : Nat) : Int)) - ((nIntSSS x1 : Nat) : Int) = (a - ((nQueryS x0 + nIntSSS x1 : Nat) : Int)) := by omega
  rw [e1]
  exact Ev.const (by first | rfl | rw [if_neg (by omega)])
theorem toCache (x0 : List S65) (x1 : List (List (List Int))) (x2 : Int) (hn : nQueryS x0 + nIntSSS x1 ≤ 1048576) : Ev (fun k => laws_toCache.f k x0 x1 x2) (cQueryS x0, cIntSSS x1, x2) := by
  unfold laws_toCache.f
  refine Ev.bind (toQueryS x0 (by omega)) ?_
  refine Ev.bind (toIntSSS x1 (by omega)) ?_
  exact Ev.const rfl
theorem eqCache (x0 : List S72) (x1 : List (List (List Int))) (x2 : Int) (mx0_ : mQueryS x0) (mx1_ : mIntSSS x1) : Ev (fun k => laws_eqCache.f k x0 x1 x2 x0 x1 x2) true := by
  unfold laws_eqCache.f
  refine Ev.bind (eqQueryS x0 mx0_) (Ev.pos rfl ?_)
  refine Ev.bind (eqIntSSS x1 mx1_) (Ev.pos rfl ?_)
  first | refine Ev.pos rfl ?_ | skip
  exact Ev.const rfl
end Go.Proofs.Ytjiipeidginjnaa.PLaw

namespace Go.Proofs.Ytjiipeidginjnaa.Pure
open Go.RowKit Go.Proofs.Ytjiipeidginjnaa.Q Go.Proofs.YtjiipeidginjnaaW.PrintWords Go.Proofs.YtjiipeidginjnaaW.PrintLast Go.Proofs.Ytjiipeidginjnaa.PB Go.Proofs.Ytjiipeidginjnaa.PLaw Go.Proofs.Ytjiipeidginjnaa.PEqC
set_option linter.unusedVariables false
theorem FnExactEqualCaches : ∀ (l0_0 : List (S65)) (l0_1 : List (List (List Int))) (a0_2 : Int) (l1_0 : List (S65)) (l1_1 : List (List (List Int))) (a1_2 : Int), (qQueryS l0_0) → (qIntSSS l0_1) → ((Lit.int .i64 a0_2).wf = true) → (qQueryS l1_0) → (qIntSSS l1_1) → ((Lit.int .i64 a1_2).wf = true) → ∃ k, laws_FnExactEqualCaches.f k l0_0 l0_1 a0_2 l1_0 l1_1 a1_2 = some true := by
  intro l0_0 l0_1 a0_2 l1_0 l1_1 a1_2 ql0_0 ql0_1 qa0_2 ql1_0 ql1_1 qa1_2
  apply Ev.rounds
  unfold laws_FnExactEqualCaches.f
  have z0 := szCache l0_0 l0_1 a0_2 1048576 (by omega) (by omega) ql0_0 ql0_1 qa0_2
  by_cases c0 : (1048576 : Int) < ((nQueryS l0_0 + nIntSSS l0_1 : Nat) : Int)
  · rw [if_pos c0] at z0
    exact Ev.bind z0 (Ev.pos (by omega) (Ev.const rfl))
  rw [if_neg c0] at z0
  refine Ev.bind z0 (Ev.neg (by omega) ?_)
  have z1 := szCache l1_0 l1_1 a1_2 ((1048576 : Int) - ((nQueryS l0_0 + nIntSSS l0_1 : Nat) : Int)) (by omega) (by omega) ql1_0 ql1_1 qa1_2
  by_cases c1 : ((1048576 : Int) - ((nQueryS l0_0 + nIntSSS l0_1 : Nat) : Int)) < ((nQueryS l1_0 + nIntSSS l1_1 : Nat) : Int)
  · rw [if_pos c1] at z1
    exact Ev.bind z1 (Ev.pos (by omega) (Ev.const rfl))
  rw [if_neg c1] at z1
  refine Ev.bind z1 (Ev.neg (by omega) ?_)
  have sl0_0 : nQueryS l0_0 ≤ 1048576 := by omega
  have sl0_1 : nIntSSS l0_1 ≤ 1048576 := by omega
  have sl1_0 : nQueryS l1_0 ≤ 1048576 := by omega
  have sl1_1 : nIntSSS l1_1 ≤ 1048576 := by omega
  have t0 := toCache l0_0 l0_1 a0_2 (by omega)
  have t1 := toCache l1_0 l1_1 a1_2 (by omega)
  have e0 := eqCache (cQueryS l0_0) (cIntSSS l0_1) a0_2 (mcQueryS (by omega)) (mcIntSSS (by omega))
  have e1 := eqCache (cQueryS l1_0) (cIntSSS l1_1) a1_2 (mcQueryS (by omega)) (mcIntSSS (by omega))
  have hv : (cQueryS l0_0).length ≤ 1048576 := by unfold cQueryS; simp; unfold nQueryS at sl0_0; omega
  have ht : (cIntSSS l0_1).length ≤ 1048576 := by unfold cIntSSS; simp; unfold nIntSSS at sl0_1; omega
  have hq : ∀ v ∈ cQueryS l0_0, bQ v := by
    intro v hv
    obtain ⟨y, hy, rfl⟩ := List.mem_map.1 hv
    have h1 : nIntS y.f0 + nAtomS y.f1 ≤ tsum nQuery l0_0 := tsum_mem nQuery hy
    have h2 : nIntS y.f0 + nAtomS y.f1 ≤ 1048576 := by unfold nQueryS at sl0_0; omega
    have h3 : y.f0.length ≤ 1048576 := by unfold nIntS at h2; omega
    refine ⟨h3, ?_, fun a ha => ?_⟩
    · show (y.f1.map cAtom).length ≤ _
      rw [List.length_map]; unfold nAtomS at h2; omega
    · obtain ⟨b, hb, rfl⟩ := List.mem_map.1 ha
      have h4 : b.f1.length ≤ tsum nAtom y.f1 := tsum_mem nAtom hb
      show b.f1.length ≤ _
      unfold nAtomS at h2; omega
  have hr : ∀ t ∈ cIntSSS l0_1, bT t := by
    intro t ht
    obtain ⟨y, hy, rfl⟩ := List.mem_map.1 ht
    have h1 : y.length + tsum nIntS y ≤ tsum nIntSS l0_1 := tsum_mem nIntSS hy
    have h2 : y.length + tsum nIntS y ≤ 1048576 := by unfold nIntSSS at sl0_1; omega
    refine ⟨by show (y.map cIntS).length ≤ _; rw [List.length_map]; omega, fun r hr => ?_⟩
    obtain ⟨z, hz, rfl⟩ := List.mem_map.1 hr
    have h3 : z.length ≤ tsum nIntS y := tsum_mem nIntS hz
    show z.length ≤ _
    omega
  have sp := spec_eqC (cQueryS l0_0) (cIntSSS l0_1) a0_2 (cQueryS l1_0) (cIntSSS l1_1) a1_2 hv ht hq hr
  have im := impl_eqC (cQueryS l0_0) (cIntSSS l0_1) a0_2 (cQueryS l1_0) (cIntSSS l1_1) a1_2 hv ht hq hr
  repeat' first
    | exact Ev.const rfl
    | refine Ev.pos rfl ?_
    | refine Ev.neg (by simp) ?_
    | refine Ev.bind t0 ?_
    | refine Ev.bind t1 ?_
    | refine Ev.bind sp ?_
    | refine Ev.bind im ?_
    | refine Ev.bind e0 ?_
    | refine Ev.bind e1 ?_
end Go.Proofs.Ytjiipeidginjnaa.Pure

namespace Go.Proofs.Ytjiipeidginjnaa.Opens
open Go.RowKit Go.Proofs.YtjiipeidginjnaaW.PrintWords Go.Deep Go.ChangeShapes Go.WideShapes
set_option linter.unusedVariables false

/-- Whatever reads as data of type t is of kind d, and Q holds of it. -/
def Rdd {α : Type} (P : Program) (w : World) (t : TypeId) (d : Kd α) (Q : α → Prop) : Prop :=
  ∀ (H : Type) (enc : TypeId × Value → H) (fuel : Nat) (cs : List Value) (x : DataW H × List MemPlace),
    DataW.trod enc P w 0 (fun _ => true) true fuel t cs = some x → ∃ a, d.K w a cs ∧ Q a

variable {α β γ δ : Type} {P : Program} {w : World} {t e : TypeId}

theorem op_int {k : IntKind} (ht : P.underlying t = some (.int k)) : Rdd P w t (Kd.int k) (fun n => (Lit.int k n).wf = true) := by
  intro H enc fuel cs x h
  obtain ⟨n, rfl, _, hw⟩ := DataW.trod_int ht h
  exact ⟨n, rfl, hw⟩
theorem op_mono {d : Kd α} {Q Q' : α → Prop} (h : Rdd P w t d Q) (hq : ∀ a, Q a → Q' a) : Rdd P w t d Q' := by
  intro H enc fuel cs x hx
  obtain ⟨a, hk, hQ⟩ := h H enc fuel cs x hx
  exact ⟨a, hk, hq a hQ⟩
theorem op_slice {d : Kd α} {Q : α → Prop} (ht : P.underlying t = some (.slice e)) (hc : P.cellsOf e = d.sz) (hd : Rdd P w e d Q) :
    Rdd P w t (Kd.slice e d) (fun xs => xs.length ≤ 9223372036854775807 ∧ ∀ x ∈ xs, Q x) := by
  classical
  intro H enc fuel cs x h
  rcases open_slice ht h with ⟨rfl, _⟩ | ⟨a, len, cap, m, n, D, Pl, rfl, _, hl, hm, hmm, _, hx⟩
  · exact ⟨[], ⟨none, 0, rfl, Nat.le_refl _, Kd.C_nil d w⟩, by simp⟩
  · have hm' : m = cap := by simpa using hmm
    have hX : ∀ i, i < len → ∃ x : α, ∃ cs', w.cells? 0 (a.add (i * d.sz)) d.sz = some cs' ∧ d.K w x cs' ∧ Q x := by
      intro i hi
      obtain ⟨cs', h1, h2⟩ := hx i (by omega)
      obtain ⟨y, hk, hq⟩ := hd H enc n cs' _ h2
      rw [hc] at h1
      exact ⟨y, cs', h1, hk, hq⟩
    rcases Nat.eq_zero_or_pos len with h0 | h0
    · subst h0
      exact ⟨[], ⟨some a, cap, rfl, Nat.zero_le _, ⟨rfl, by simp, fun h => absurd h (Nat.lt_irrefl 0)⟩⟩, by simp⟩
    · obtain ⟨x0, _⟩ := hX 0 h0
      haveI : Inhabited α := ⟨x0⟩
      obtain ⟨X, hX'⟩ := choose_lt hX
      have hlen : ((List.range len).map X).length = len := by simp
      have hmx : ((List.range len).map X).length ≤ 9223372036854775807 := by rw [hlen]; unfold maxLen at hm; omega
      refine ⟨(List.range len).map X, ⟨some a, cap, by rw [hlen], by rw [hlen]; exact hl, ⟨rfl, hmx, fun _ => ⟨a, rfl, ?_⟩⟩⟩, hmx, ?_⟩
      · intro j p hj
        have hj' : j < len := by
          have := (List.getElem?_eq_some_iff.1 hj).1
          rwa [hlen] at this
        have hp : p = X j := by
          rw [List.getElem?_map, List.getElem?_range hj'] at hj
          simpa using hj.symm
        subst hp
        obtain ⟨cs', h1, h2, _⟩ := hX' j hj'
        obtain ⟨_, hl', hcell⟩ := World.cells?_some h1
        refine ⟨cs', hl', h2, fun i u hu => ?_⟩
        have hi : i < d.sz := by
          have := (List.getElem?_eq_some_iff.1 hu).1
          omega
        have := hcell i hi
        rw [hu] at this
        rw [← this, Addr.add_add]
      · intro x hx
        obtain ⟨i, hi, rfl⟩ := List.mem_map.1 hx
        exact (hX' i (List.mem_range.1 hi)).choose_spec.2.2
theorem op_iso {d : Kd α} {Q : α → Prop} (f : β → α) (g : α → β) (hfg : ∀ a, f (g a) = a) (h : Rdd P w t d Q) : Rdd P w t (Kd.iso d f) (fun b => Q (f b)) := by
  intro H enc fuel cs x hx
  obtain ⟨a, hk, hq⟩ := h H enc fuel cs x hx
  refine ⟨g a, ?_, ?_⟩
  · show d.K w (f (g a)) cs
    rw [hfg]; exact hk
  · show Q (f (g a))
    rw [hfg]; exact hq
theorem op_struct2 {f0 f1 : Field} {d0 : Kd α} {d1 : Kd β} {Q0 : α → Prop} {Q1 : β → Prop} (ht : P.underlying t = some (.struct #[f0, f1])) (h0 : f0.offset = 0) (h1 : f1.offset = d0.sz)
    (z : P.cellsOf t = d0.sz + d1.sz) (z0 : P.cellsOf f0.type = d0.sz) (z1 : P.cellsOf f1.type = d1.sz)
    (o0 : Rdd P w f0.type d0 Q0) (o1 : Rdd P w f1.type d1 Q1) : Rdd P w t (Kd.pair d0 d1) (fun a => Q0 a.1 ∧ Q1 a.2) := by
  intro H enc fuel cs x hx
  obtain ⟨y0, y1, n, rfl, hl, g0, g1⟩ := trod_struct2 ht hx
  obtain ⟨a, hk, hq⟩ := o0 H enc n _ y0 g0
  obtain ⟨b, hk1, hq1⟩ := o1 H enc n _ y1 g1
  rw [h0, List.drop_zero, z0] at hk
  rw [h1, z1, List.take_of_length_le (by simp; omega)] at hk1
  exact ⟨(a, b), ⟨_, _, (List.take_append_drop d0.sz cs).symm, hk, hk1⟩, hq, hq1⟩
theorem op_struct3 {f0 f1 f2 : Field} {d0 : Kd α} {d1 : Kd β} {d2 : Kd γ} {Q0 : α → Prop} {Q1 : β → Prop} {Q2 : γ → Prop} (ht : P.underlying t = some (.struct #[f0, f1, f2])) (h0 : f0.offset = 0) (h1 : f1.offset = d0.sz)
    (h2 : f2.offset = d0.sz + d1.sz) (z : P.cellsOf t = d0.sz + (d1.sz + d2.sz)) (z0 : P.cellsOf f0.type = d0.sz) (z1 : P.cellsOf f1.type = d1.sz) (z2 : P.cellsOf f2.type = d2.sz)
    (o0 : Rdd P w f0.type d0 Q0) (o1 : Rdd P w f1.type d1 Q1) (o2 : Rdd P w f2.type d2 Q2) :
    Rdd P w t (Kd.pair d0 (Kd.pair d1 d2)) (fun a => Q0 a.1 ∧ Q1 a.2.1 ∧ Q2 a.2.2) := by
  intro H enc fuel cs x hx
  obtain ⟨y0, y1, y2, n, rfl, hl, g0, g1, g2⟩ := trod_struct3 ht hx
  obtain ⟨a, hk, hq⟩ := o0 H enc n _ y0 g0
  obtain ⟨b, hk1, hq1⟩ := o1 H enc n _ y1 g1
  obtain ⟨c, hk2, hq2⟩ := o2 H enc n _ y2 g2
  rw [h0, List.drop_zero, z0] at hk
  rw [h1, z1] at hk1
  rw [h2, z2, List.take_of_length_le (by simp; omega), ← List.drop_drop] at hk2
  exact ⟨(a, (b, c)), ⟨_, _, (List.take_append_drop d0.sz cs).symm, hk, ⟨_, _, (List.take_append_drop d1.sz (cs.drop d0.sz)).symm, hk1, hk2⟩⟩, hq, hq1, hq2⟩
theorem op_of {d : Kd α} {Q : α → Prop} {H : Type} {enc : TypeId × Value → H} {v : Value} {dd : DataW H} {ps : List MemPlace} (h : Rdd P w t d Q) (hx : DataW.Trod enc P w 0 (fun _ => true) true t v dd ps) :
    ∃ a, d.K w a v.cells.toList ∧ Q a := by
  obtain ⟨fuel, hf⟩ := hx
  exact h H enc fuel _ _ hf
end Go.Proofs.Ytjiipeidginjnaa.Opens

