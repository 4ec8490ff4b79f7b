/- Several texts in one: what the claim needs of them. Conditions: each declaration's own. -/
import Derived.Test.YtjiipeidginjnaaZFceWWords
import Derived.Test.YtjiipeidginjnaaZFceM10
import Derived.Test.YtjiipeidginjnaaZFceM12
import Derived.Test.YtjiipeidginjnaaZFceM15
import Derived.Test.YtjiipeidginjnaaZFcePx18
import Derived.Test.YtjiipeidginjnaaZFcePx20
import Derived.Test.YtjiipeidginjnaaZFcePx21
import Derived.Test.YtjiipeidginjnaaZFcePx19
import Derived.Test.YtjiipeidginjnaaZFcePx22
import Derived.Test.YtjiipeidginjnaaZFcePx23
import Derived.Test.YtjiipeidginjnaaZFcePx24
import Derived.Deep.Slices
import Derived.Deep.Strs
import Derived.Lib.SmallJoins
import Derived.WideShapes
import Derived.ChangeSame
import Derived.DataElems
namespace Go.Proofs.Ytjiipeidginjnaa.PB
open Go.RowKit Go.Proofs.YtjiipeidginjnaaW.PrintWords
set_option linter.unusedVariables false

theorem Ev.pos {α : Type} {c : Prop} [Decidable c] {f g : Nat → Option α} {r : α} (h : c) (k : Ev f r) : Ev (fun n => if c then f n else g n) r :=
  Ev.congr (fun n => if_pos h) k
theorem Ev.neg {α : Type} {c : Prop} [Decidable c] {f g : Nat → Option α} {r : α} (h : ¬ c) (k : Ev g r) : Ev (fun n => if c then f n else g n) r :=
  Ev.congr (fun n => if_neg h) k
theorem Ev.const {α : Type} {x : Option α} {r : α} (h : x = some r) : Ev (fun _ => x) r := ⟨0, fun _ _ => h⟩
/-- A callee without rounds. -/
theorem Ev.bindc {α β : Type} {g : Option α} {f : Nat → α → Option β} {a : α} {r : β} (h : g = some a) (k : Ev (fun n => f n a) r) : Ev (fun n => g.bind (f n)) r := by
  subst h; exact k
theorem Ev.last {α β : Type} {g : Nat → Option α} {a : α} {f : α → β} (h : Ev g a) : Ev (fun n => (g n).bind fun x => some (f x)) (f a) := Ev.bind h (Ev.now _)
theorem Ev.eq {α : Type} {g f : Nat → Option α} {r q : α} (h : Ev g r) (hg : g = f) (hr : r = q) : Ev f q := by subst hg; subst hr; exact h

theorem inc {i : Nat} (h : i < 4611686018427387904) : wrap64 ((i : Int) + 1) = ((i + 1 : Nat) : Int) := by
  unfold wrap64; omega
theorem w64 {n : Int} (h : -9223372036854775808 ≤ n) (h' : n ≤ 9223372036854775807) : wrap64 n = n := by
  unfold wrap64; omega
theorem rd_nat (xs : List Int) (i : Nat) (h : i < xs.length) : rd xs (i : Int) = xs[i] := by
  unfold rd; simp [List.getD_eq_getElem?_getD, h]
theorem rdOf_nat {α : Type} (d : α) (xs : List α) (i : Nat) (h : i < xs.length) : rdOf d xs (i : Int) = xs[i] := by
  unfold rdOf; simp [List.getD_eq_getElem?_getD, h]
theorem getD_nat {α : Type} (d : α) (xs : List α) (i : Nat) (h : i < xs.length) : xs.getD (i : Int).toNat d = xs[i] := by
  simp [List.getD_eq_getElem?_getD, h]
theorem drop_cons {α : Type} {xs : List α} {i : Nat} (h : i < xs.length) : xs.drop i = xs[i] :: xs.drop (i + 1) := by
  exact List.drop_eq_getElem_cons h
theorem take_snoc {α : Type} {xs : List α} {i : Nat} (h : i < xs.length) : xs.take (i + 1) = xs.take i ++ [xs[i]] := by
  exact List.take_succ_eq_append_getElem h
theorem fill_set' {α : Type} (ys : List α) (i d : Nat) (z v : α) (h : ys.length = i) : (ys ++ List.replicate (d + 1) z).set i v = ys ++ [v] ++ List.replicate d z := by
  rw [List.set_append, if_neg (by omega), h, Nat.sub_self]
  simp [List.replicate_succ]
def tsum {α : Type} (f : α → Nat) : List α → Nat
  | [] => 0
  | x :: r => f x + tsum f r
theorem tsum_cons {α : Type} (f : α → Nat) (x : α) (r : List α) : tsum f (x :: r) = f x + tsum f r := rfl
theorem tsum_mem {α : Type} (f : α → Nat) {l : List α} {x : α} (h : x ∈ l) : f x ≤ tsum f l := by
  induction l with
  | nil => simp at h
  | cons y r ih =>
    rcases List.mem_cons.1 h with rfl | h
    · simp [tsum]
    · have := ih h; simp [tsum]; omega
end Go.Proofs.Ytjiipeidginjnaa.PB

namespace Go.Proofs.Ytjiipeidginjnaa.PNum
open Go.RowKit Go.Proofs.Ytjiipeidginjnaa.P Go.Proofs.YtjiipeidginjnaaW.PrintWords Go.Proofs.YtjiipeidginjnaaW.PrintLast Go.Proofs.Ytjiipeidginjnaa.PB
set_option linter.unusedVariables false

theorem sn_append (a b : List Int) : strOfNums (a ++ b) = strOfNums a ++ strOfNums b := by
  apply ByteArray.ext; simp [strOfNums]
theorem sn_nil : strOfNums [] = (⟨#[]⟩ : ByteArray) := rfl
theorem ba_nil (s : ByteArray) : (⟨#[]⟩ : ByteArray) ++ s = s := by
  apply ByteArray.ext; simp
theorem ba_nil' (s : ByteArray) : s ++ (⟨#[]⟩ : ByteArray) = s := by
  apply ByteArray.ext; simp
theorem ba_assoc (a b c : ByteArray) : a ++ b ++ c = a ++ (b ++ c) := by
  apply ByteArray.ext; simp [Array.append_assoc]

/-- A digit's byte. -/
def dg (x : Int) : Int := if Int.tmod x 10 < 0 then (wrap64 (48 + wrap64 (-(Int.tmod x 10)))) % 256 else (wrap64 (48 + Int.tmod x 10)) % 256
/-- The digits, the last one first. -/
def revd : Nat → Int → List Int
  | 0, _ => []
  | f + 1, x => if x = 0 then [] else dg x :: revd f (wrap64 (Int.tdiv x 10))

theorem div_small {f : Nat} {x : Int} (h : x.natAbs < 10 ^ (f + 1)) : (Int.tdiv x 10).natAbs < 10 ^ f := by
  rw [Int.natAbs_tdiv]
  show x.natAbs / 10 < 10 ^ f
  rw [Nat.div_lt_iff_lt_mul (by omega)]
  rw [Nat.pow_succ] at h; exact h
theorem in_range {x : Int} (h : (Lit.int .i64 x).wf = true) : -9223372036854775808 ≤ x ∧ x ≤ 9223372036854775807 := by
  simp only [Lit.wf, Bool.and_eq_true, decide_eq_true_eq] at h
  exact ⟨by have := h.1; simpa [IntKind.min, IntKind.bits, IntKind.signed] using this, by have := h.2; simpa [IntKind.max, IntKind.bits, IntKind.signed] using this⟩
theorem tdiv_wrap {x : Int} (h : x.natAbs ≤ 9223372036854775808) : wrap64 (Int.tdiv x 10) = Int.tdiv x 10 := by
  have : (Int.tdiv x 10).natAbs ≤ 922337203685477580 := by
    rw [Int.natAbs_tdiv]; show x.natAbs / 10 ≤ _; omega
  exact w64 (by omega) (by omega)
theorem tdiv_abs {x : Int} (h : x.natAbs ≤ 9223372036854775808) : (Int.tdiv x 10).natAbs ≤ 9223372036854775808 := by
  rw [Int.natAbs_tdiv]; show x.natAbs / 10 ≤ _; omega

theorem spec_loop (neg : Bool) : ∀ (f : Nat) (x : Int) (s : ByteArray), f ≤ 40 → x.natAbs < 10 ^ f → x.natAbs ≤ 9223372036854775808 → s.size + f ≤ 100 →
    Ev (fun k => spec_FormatInt.l0 k x s neg) ((if neg = true then (⟨#[45]⟩ : ByteArray) else ⟨#[]⟩) ++ (strOfNums (revd f x).reverse ++ s)) := by
  intro f
  induction f with
  | zero =>
    intro x s _ h _ hs
    obtain rfl : x = 0 := by simp at h; omega
    refine Ev.step (fun k => by rw [spec_FormatInt.l0]) ?_
    refine Ev.pos rfl ?_
    cases neg with
    | true =>
      refine Ev.pos rfl (Ev.pos (by omega) (Ev.const ?_))
      simp [revd, sn_nil, ba_nil]
    | false =>
      refine Ev.neg (by simp) (Ev.const ?_)
      simp [revd, sn_nil, ba_nil]
  | succ f ih =>
    intro x s hf h ha hs
    by_cases hx : x = 0
    · subst hx
      refine Ev.step (fun k => by rw [spec_FormatInt.l0]) ?_
      refine Ev.pos rfl ?_
      cases neg with
      | true =>
        refine Ev.pos rfl (Ev.pos (by omega) (Ev.const ?_))
        simp [revd, sn_nil, ba_nil]
      | false =>
        refine Ev.neg (by simp) (Ev.const ?_)
        simp [revd, sn_nil, ba_nil]
    · refine Ev.step (fun k => by rw [spec_FormatInt.l0]) ?_
      refine Ev.neg hx ?_
      have hsz : ∀ d : Int, (strOfNums [d]).size = 1 := fun d => by rw [strOfNums_size]; rfl
      have hb : ∀ d : Int, (strOfNums [d] ++ s).size + f ≤ 100 := fun d => by rw [ByteArray.size_append, hsz]; omega
      have key : ∀ d : Int, d = dg x → Ev (fun k => spec_FormatInt.l0 k (wrap64 (Int.tdiv x 10)) (strOfNums [d] ++ s) neg) ((if neg = true then (⟨#[45]⟩ : ByteArray) else ⟨#[]⟩) ++ (strOfNums (revd (f + 1) x).reverse ++ s)) := by
        intro d hd
        rw [tdiv_wrap ha]
        refine Ev.eq (ih (Int.tdiv x 10) (strOfNums [d] ++ s) (by omega) (div_small h) (tdiv_abs ha) (hb d)) rfl ?_
        have e : revd (f + 1) x = dg x :: revd f (Int.tdiv x 10) := by rw [revd, if_neg hx, tdiv_wrap ha]
        rw [e, List.reverse_cons, sn_append, hd, ba_assoc (strOfNums _) (strOfNums [dg x]) s]
      by_cases hm : Int.tmod x 10 < 0
      · refine Ev.pos hm ?_
        refine Ev.bindc (g := some _) rfl (Ev.pos (by rw [hsz]; omega) (key _ (by rw [dg, if_pos hm])))
      · refine Ev.neg hm ?_
        refine Ev.bindc (g := some _) rfl (Ev.pos (by rw [hsz]; omega) (key _ (by rw [dg, if_neg hm])))

/-- The text of a number. -/
def fmt (x : Int) : ByteArray := if x = 0 then ⟨#[48]⟩ else (if x < 0 then (⟨#[45]⟩ : ByteArray) else ⟨#[]⟩) ++ strOfNums (revd 20 x).reverse
theorem revd_len : ∀ f x, (revd f x).length ≤ f := by
  intro f
  induction f with
  | zero => intro x; simp [revd]
  | succ f ih =>
    intro x; rw [revd]; split
    · simp
    · have := ih (wrap64 (Int.tdiv x 10)); simp; omega
theorem fmt_size (x : Int) : (fmt x).size ≤ 21 := by
  unfold fmt; split
  · show (1 : Nat) ≤ 21; omega
  · have := revd_len 20 x
    rw [ByteArray.size_append, strOfNums_size, List.length_reverse]
    split
    · show 1 + _ ≤ 21; omega
    · show 0 + _ ≤ 21; omega
theorem abs_small {x : Int} (h : (Lit.int .i64 x).wf = true) : x.natAbs ≤ 9223372036854775808 := by
  have := in_range h; omega
theorem spec_ev {x : Int} (h : (Lit.int .i64 x).wf = true) : Ev (fun k => spec_FormatInt.f k x) (fmt x) := by
  have ha := abs_small h
  by_cases hx : x = 0
  · subst hx
    exact Ev.const rfl
  · refine Ev.eq (Ev.neg (c := x = 0) (f := fun _ => some (⟨#[48]⟩ : ByteArray)) hx (spec_loop (decide (x < 0)) 20 x ⟨#[]⟩ (by omega) (by show _ < (100000000000000000000 : Nat); omega) ha (by show 0 + 20 ≤ 100; omega))) (by funext k; rw [spec_FormatInt.f]) ?_
    rw [fmt, if_neg hx, ba_nil']
    by_cases hn : x < 0
    · simp [hn]
    · simp [hn]

theorem turn_loop : ∀ (n : Nat) (a m b : List Int), m.length = n → a.length = b.length → a.length + n + b.length ≤ 1000 →
    Ev (fun k => impl_FormatInt.l1 k (a ++ m ++ b) (a.length : Int) (wrap64 ((a.length + m.length : Nat) - 1 : Int))) (strOfNums (a ++ m.reverse ++ b)) := by
  intro n
  induction n using Nat.strongRecOn with
  | ind n ih =>
    intro a m b hm hab hl
    rw [w64 (by omega) (by omega)]
    by_cases h2 : n < 2
    · refine Ev.step (fun k => by rw [impl_FormatInt.l1]) ?_
      refine Ev.neg (by omega) (Ev.const ?_)
      have : m.reverse = m := by
        match m, hm with
        | [], _ => rfl
        | [x], _ => rfl
        | x :: y :: r, hm => simp at hm; omega
      rw [this]
    · obtain ⟨x, m1, y, rfl⟩ : ∃ x m1 y, m = x :: (m1 ++ [y]) := by
        match m, hm with
        | [], hm => simp at hm; omega
        | x :: r, hm =>
          have hr : r ≠ [] := by rintro rfl; simp at hm; omega
          exact ⟨x, r.dropLast, r.getLast hr, by rw [List.dropLast_concat_getLast hr]⟩
      simp only [List.length_cons, List.length_append, List.length_nil] at hm
      refine Ev.step (fun k => by rw [impl_FormatInt.l1]) ?_
      simp only [List.length_cons, List.length_append, List.length_nil] at hl ⊢
      refine Ev.pos (by omega) (Ev.pos (by omega) (Ev.pos (by omega) (Ev.pos (by omega) (Ev.pos (by omega) ?_))))
      have i1 : ((a.length : Int)).toNat = a.length := by omega
      have i2 : (((a.length + (m1.length + (0 + 1) + 1) : Nat) : Int) - 1).toNat = a.length + m1.length + 1 := by omega
      have r1 : rd (a ++ x :: (m1 ++ [y]) ++ b) (a.length : Int) = x := by
        unfold rd; rw [i1]; simp [List.getD_eq_getElem?_getD]
      have r2 : rd (a ++ x :: (m1 ++ [y]) ++ b) (((a.length + (m1.length + (0 + 1) + 1) : Nat) : Int) - 1) = y := by
        unfold rd; rw [i2, List.getD_eq_getElem?_getD]
        rw [List.getElem?_append_left (by simp; omega), List.getElem?_append_right (by omega)]
        have : a.length + m1.length + 1 - a.length = m1.length + 1 := by omega
        rw [this]; simp
      have s1 : ((a ++ x :: (m1 ++ [y]) ++ b).set (a.length : Int).toNat y).set (((a.length + (m1.length + (0 + 1) + 1) : Nat) : Int) - 1).toNat x = (a ++ [y]) ++ m1 ++ ([x] ++ b) := by
        rw [i1, i2]
        have e1 : (a ++ x :: (m1 ++ [y]) ++ b).set a.length y = (a ++ [y] ++ m1) ++ (y :: b) := by
          rw [List.append_assoc, List.set_append, if_neg (by omega), Nat.sub_self]; simp
        rw [e1, List.set_append, if_neg (by simp; omega)]
        have : a.length + m1.length + 1 - (a ++ [y] ++ m1).length = 0 := by simp; omega
        rw [this]; simp
      rw [r1, r2, s1, w64 (by omega) (by omega)]
      refine Ev.eq (ih m1.length (by omega) (a ++ [y]) m1 ([x] ++ b) rfl (by simp; omega) (by simp; omega)) ?_ ?_
      · funext k
        congr 1
        · simp
        · congr 1; simp; omega
      · simp
theorem turn_ev (l : List Int) (h : l.length ≤ 500) : Ev (fun k => impl_FormatInt.j1 k l) (strOfNums l.reverse) := by
  refine Ev.step (fun k => by rw [impl_FormatInt.j1]) ?_
  have := turn_loop l.length [] l [] rfl rfl (by simp; omega)
  simpa using this
theorem impl_loop (x0 : Int) : ∀ (f : Nat) (x : Int) (l : List Int), f ≤ 40 → x.natAbs < 10 ^ f → x.natAbs ≤ 9223372036854775808 → l.length + f ≤ 100 →
    Ev (fun k => impl_FormatInt.l0 k x0 l x) (strOfNums (l ++ revd f x ++ (if x0 < 0 then [45] else [])).reverse) := by
  intro f
  induction f with
  | zero =>
    intro x l _ h _ hs
    obtain rfl : x = 0 := by simp at h; omega
    refine Ev.step (fun k => by rw [impl_FormatInt.l0]) ?_
    refine Ev.pos rfl ?_
    by_cases hn : x0 < 0
    · refine Ev.pos hn (Ev.pos (by omega) ?_)
      rw [if_pos hn]; exact Ev.eq (turn_ev (l ++ [45]) (by simp; omega)) rfl (by simp [revd])
    · refine Ev.neg hn ?_
      rw [if_neg hn]; simpa [revd] using turn_ev l (by omega)
  | succ f ih =>
    intro x l hf h ha hs
    by_cases hx : x = 0
    · subst hx
      refine Ev.step (fun k => by rw [impl_FormatInt.l0]) ?_
      refine Ev.pos rfl ?_
      by_cases hn : x0 < 0
      · refine Ev.pos hn (Ev.pos (by omega) ?_)
        rw [if_pos hn]; exact Ev.eq (turn_ev (l ++ [45]) (by simp; omega)) rfl (by simp [revd])
      · refine Ev.neg hn ?_
        rw [if_neg hn]; simpa [revd] using turn_ev l (by omega)
    · refine Ev.step (fun k => by rw [impl_FormatInt.l0]) ?_
      refine Ev.neg hx ?_
      have key : ∀ d : Int, d = dg x → Ev (fun k => impl_FormatInt.l0 k x0 (l ++ [d]) (wrap64 (Int.tdiv x 10))) (strOfNums (l ++ revd (f + 1) x ++ (if x0 < 0 then [45] else [])).reverse) := by
        intro d hd
        rw [tdiv_wrap ha]
        refine Ev.eq (ih (Int.tdiv x 10) (l ++ [d]) (by omega) (div_small h) (tdiv_abs ha) (by simp; omega)) rfl ?_
        have e : revd (f + 1) x = dg x :: revd f (Int.tdiv x 10) := by rw [revd, if_neg hx, tdiv_wrap ha]
        rw [e, hd]; simp
      by_cases hm : Int.tmod x 10 < 0
      · exact Ev.pos hm (Ev.pos (by omega) (key _ (by rw [dg, if_pos hm])))
      · exact Ev.neg hm (Ev.pos (by omega) (key _ (by rw [dg, if_neg hm])))
theorem impl_ev {x : Int} (h : (Lit.int .i64 x).wf = true) : Ev (fun k => impl_FormatInt.f k x) (fmt x) := by
  have ha := abs_small h
  by_cases hx : x = 0
  · subst hx
    exact Ev.const rfl
  · refine Ev.eq (Ev.neg (c := x = 0) (f := fun _ => some (⟨#[48]⟩ : ByteArray)) hx (impl_loop x 20 x [] (by omega) (by show _ < (100000000000000000000 : Nat); omega) ha (by simp))) (by funext k; rw [impl_FormatInt.f]) ?_
    rw [fmt, if_neg hx]
    by_cases hn : x < 0
    · simp only [hn, if_true, List.nil_append, List.reverse_append, List.reverse_cons, List.reverse_nil]
      rw [sn_append]; rfl
    · simp only [hn, if_false, List.nil_append, List.append_nil]
      rw [ba_nil]
end Go.Proofs.Ytjiipeidginjnaa.PNum

namespace Go.Proofs.Ytjiipeidginjnaa.PJoin
open Go.RowKit Go.Proofs.Ytjiipeidginjnaa.P Go.Proofs.YtjiipeidginjnaaW.PrintWords Go.Proofs.YtjiipeidginjnaaW.PrintLast Go.Proofs.Ytjiipeidginjnaa.PB Go.Proofs.Ytjiipeidginjnaa.PNum
set_option linter.unusedVariables false

/-- What is there is followed by the texts; ahead of each, or of each but the first, stands 'by'. -/
def jn (b : ByteArray) : Bool → ByteArray → List ByteArray → ByteArray
  | _, s, [] => s
  | p, s, x :: r => jn b true (if p = true then (s ++ b) ++ x else s ++ x) r
def total (b : ByteArray) : List ByteArray → Nat
  | [] => 0
  | x :: r => b.size + x.size + total b r
theorem total_map {α : Type} (b : ByteArray) (f : α → ByteArray) (B : Nat) (xs : List α) (h : ∀ x ∈ xs, (f x).size ≤ B) : total b (xs.map f) ≤ xs.length * (b.size + B) := by
  induction xs with
  | nil => simp [total]
  | cons x r ih =>
    have := ih (fun y hy => h y (by simp [hy])); have := h x (by simp)
    simp only [List.map_cons, total, List.length_cons, Nat.add_mul]; omega
theorem jn_size (b : ByteArray) : ∀ (xs : List ByteArray) (p : Bool) (s : ByteArray), (jn b p s xs).size ≤ s.size + total b xs := by
  intro xs
  induction xs with
  | nil => intro p s; simp [jn, total]
  | cons x r ih =>
    intro p s
    rw [jn]; refine Nat.le_trans (ih _ _) ?_
    cases p <;> simp [total, ByteArray.size_append] <;> omega
theorem glued_loop (b : ByteArray) (l : List ByteArray) (hl : l.length ≤ 4611686018427387000) : ∀ (d i : Nat) (s : ByteArray), i + d = l.length → s.size + total b (l.drop i) ≤ 9223372036854775807 →
    Ev (fun k => impl_glued.l0 k b s l (l.length : Int) (i : Int)) (jn b (decide (0 < i)) s (l.drop i)) := by
  intro d
  induction d with
  | zero =>
    intro i s hi hs
    obtain rfl : i = l.length := by omega
    refine Ev.step (fun k => by rw [impl_glued.l0]) (Ev.neg (by omega) (Ev.const ?_))
    simp [jn]
  | succ d ih =>
    intro i s hi hs
    have hlt : i < l.length := by omega
    rw [drop_cons hlt] at hs ⊢
    simp only [total] at hs
    refine Ev.step (fun k => by rw [impl_glued.l0]) (Ev.pos (by omega) (Ev.pos (by omega) (Ev.pos (by omega) ?_)))
    rw [rdOf_nat _ _ _ hlt, inc (by omega)]
    by_cases h0 : 0 < i
    · refine Ev.pos (by omega) (Ev.pos (by omega) (Ev.pos (by rw [ByteArray.size_append]; omega) ?_))
      refine Ev.eq (ih (i + 1) _ (by omega) (by simp only [ByteArray.size_append]; omega)) rfl ?_
      simp [jn, h0]
    · obtain rfl : i = 0 := by omega
      refine Ev.neg (by omega) (Ev.pos (by omega) ?_)
      refine Ev.eq (ih (0 + 1) _ (by omega) (by simp only [ByteArray.size_append]; omega)) rfl ?_
      simp [jn]
theorem glued_ev (b : ByteArray) (l : List ByteArray) (hl : l.length ≤ 4611686018427387000) (ht : total b l ≤ 9223372036854775807) : Ev (fun k => impl_glued.f k l b) (jn b false ⟨#[]⟩ l) := by
  have := glued_loop b l hl l.length 0 ⟨#[]⟩ (by omega) (by have e0 : (⟨#[]⟩ : ByteArray).size = 0 := rfl; rw [List.drop_zero]; omega)
  exact Ev.eq this (by funext k; rw [impl_glued.f]; rfl) (by simp)

def comma : ByteArray := ⟨#[44]⟩
def blankB : ByteArray := ⟨#[32]⟩
def none_ : ByteArray := ⟨#[110, 111, 110, 101]⟩
end Go.Proofs.Ytjiipeidginjnaa.PJoin

namespace Go.Proofs.Ytjiipeidginjnaa.PIn
open Go.RowKit Go.Proofs.Ytjiipeidginjnaa.P Go.Proofs.YtjiipeidginjnaaW.PrintWords Go.Proofs.YtjiipeidginjnaaW.PrintLast Go.Proofs.Ytjiipeidginjnaa.PB
set_option linter.unusedVariables false

def inr (a lo hi : Int) : Bool := decide (lo ≤ a ∧ a ≤ hi)
theorem spec_in (a lo hi : Int) : spec_l1In.f a lo hi = some (inr a lo hi) := by
  unfold spec_l1In.f inr
  by_cases h : a ≥ lo
  · rw [if_pos h]; by_cases h2 : a ≤ hi <;> simp [h2] <;> omega
  · rw [if_neg h]; simp; omega
theorem impl_in (a lo hi : Int) : impl_within.f a lo hi = some (inr a lo hi) := by
  unfold impl_within.f inr
  by_cases h : a ≥ lo
  · rw [if_pos h]; by_cases h2 : a ≤ hi <;> simp [h2] <;> omega
  · rw [if_neg h]; simp; omega
end Go.Proofs.Ytjiipeidginjnaa.PIn

namespace Go.Proofs.Ytjiipeidginjnaa.PFact
open Go.RowKit Go.Proofs.Ytjiipeidginjnaa.P Go.Proofs.YtjiipeidginjnaaW.PrintWords Go.Proofs.YtjiipeidginjnaaW.PrintLast Go.Proofs.Ytjiipeidginjnaa.PB Go.Proofs.Ytjiipeidginjnaa.PNum Go.Proofs.Ytjiipeidginjnaa.PJoin Go.Proofs.Ytjiipeidginjnaa.PIn Go.Proofs.Ytjiipeidginjnaa.PVals
set_option linter.unusedVariables false

def rB : ByteArray := ⟨#[114]⟩
def openB : ByteArray := ⟨#[40]⟩
def closeB : ByteArray := ⟨#[41]⟩
theorem jn_pre (b a : ByteArray) : ∀ (l : List ByteArray) (p : Bool) (s : ByteArray), jn b p (a ++ s) l = a ++ jn b p s l := by
  intro l
  induction l with
  | nil => intro p s; simp [jn]
  | cons x r ih =>
    intro p s
    cases p <;> simp only [jn, ba_assoc, if_true, if_false, Bool.false_eq_true] <;> rw [ih]
end Go.Proofs.Ytjiipeidginjnaa.PFact

namespace Go.Proofs.Ytjiipeidginjnaa.PTerm
open Go.RowKit Go.Proofs.Ytjiipeidginjnaa.P Go.Proofs.YtjiipeidginjnaaW.PrintWords Go.Proofs.YtjiipeidginjnaaW.PrintLast Go.Proofs.Ytjiipeidginjnaa.PB Go.Proofs.Ytjiipeidginjnaa.PIn
set_option linter.unusedVariables false

theorem spec_var (t : Int) : spec_IsVar.f t = some (inr t 0 19) := by unfold spec_IsVar.f; rw [spec_in]; rfl
theorem impl_var (t : Int) : impl_IsVar.f t = some (inr t 0 19) := by unfold impl_IsVar.f; rw [impl_in]; rfl
theorem impl_term (t : Int) : impl_IsTerm.f t = some (inr t (-80) 19) := by unfold impl_IsTerm.f; rw [impl_in]; rfl
/-- The number of a constant, or -1. -/
def cst (t : Int) : Int := if inr t (-80) (-1) = true then -1 - t else -1
theorem spec_cst (t : Int) : spec_ConstOf.f t = some (cst t) := by
  unfold spec_ConstOf.f cst; rw [spec_in]; simp only [Option.bind_some]
  by_cases h : inr t (-80) (-1) = true
  · have h' : -80 ≤ t ∧ t ≤ -1 := by simpa [inr] using h
    rw [if_pos h, if_pos h, w64 (by omega) (by omega)]
  · rw [if_neg h, if_neg h]
theorem impl_cst (t : Int) : impl_ConstOf.f t = some (cst t) := by
  unfold impl_ConstOf.f cst; rw [impl_term, impl_var]; simp only [Option.bind_some]
  by_cases h : -80 ≤ t ∧ t ≤ 19
  · rw [if_pos (by simpa [inr] using h)]
    by_cases h2 : 0 ≤ t
    · rw [if_pos (by simp [inr]; omega), if_neg (by simp [inr]; omega)]
    · rw [if_neg (by simp [inr]; omega), if_pos (by simp [inr]; omega), w64 (by omega) (by omega)]
  · rw [if_neg (by simpa [inr] using h), if_neg (by simp [inr]; omega)]
theorem spec_term (t : Int) : spec_IsTerm.f t = some (inr t (-80) 19) := by
  unfold spec_IsTerm.f; rw [spec_var, spec_cst]; simp only [Option.bind_some]
  by_cases h2 : 0 ≤ t ∧ t ≤ 19
  · rw [if_pos (by simpa [inr] using h2)]; congr 1; unfold inr; symm; rw [decide_eq_true_eq]; omega
  · rw [if_neg (by simpa [inr] using h2)]
    by_cases h : -80 ≤ t ∧ t ≤ -1
    · have e : cst t = -1 - t := by rw [cst, if_pos (by simpa [inr] using h)]
      rw [e]; congr 1; unfold inr; rw [decide_eq_decide]; omega
    · have e : cst t = -1 := by rw [cst, if_neg (by simpa [inr] using h)]
      rw [e]; congr 1; unfold inr; rw [decide_eq_decide]; omega
end Go.Proofs.Ytjiipeidginjnaa.PTerm

namespace Go.Proofs.Ytjiipeidginjnaa.PSchema
open Go.RowKit Go.Proofs.Ytjiipeidginjnaa.P Go.Proofs.YtjiipeidginjnaaW.PrintWords Go.Proofs.YtjiipeidginjnaaW.PrintLast Go.Proofs.Ytjiipeidginjnaa.PB Go.Proofs.Ytjiipeidginjnaa.PIn
set_option linter.unusedVariables false
theorem all_cons {α : Type} (p : α → Bool) (x : α) (r : List α) : (x :: r).all p = (p x && r.all p) := rfl
end Go.Proofs.Ytjiipeidginjnaa.PSchema

namespace Go.Proofs.Ytjiipeidginjnaa.PQuery
open Go.RowKit Go.Proofs.Ytjiipeidginjnaa.P Go.Proofs.YtjiipeidginjnaaW.PrintWords Go.Proofs.YtjiipeidginjnaaW.PrintLast Go.Proofs.Ytjiipeidginjnaa.PB Go.Proofs.Ytjiipeidginjnaa.PIn Go.Proofs.Ytjiipeidginjnaa.PSchema Go.Proofs.Ytjiipeidginjnaa.PTerm
set_option linter.unusedVariables false
def areT (l : List Int) : Bool := l.all fun t => inr t (-80) 19
theorem impl_areT (l : List Int) (hl : l.length ≤ 1048576) : Ev (fun k => impl_areTerms.f k l) (areT l) := by
  have loop : ∀ (d i : Nat), i + d = l.length → Ev (fun k => impl_areTerms.l0 k l (l.length : Int) (i : Int)) (areT (l.drop i)) := by
    intro d
    induction d with
    | zero =>
      intro i hi
      obtain rfl : i = l.length := by omega
      rw [List.drop_length]; show Ev _ true
      exact Ev.step (fun k => by rw [impl_areTerms.l0]) (Ev.neg (by omega) (Ev.const rfl))
    | succ d ih =>
      intro i hi
      have hlt : i < l.length := by omega
      refine Ev.step (fun k => by rw [impl_areTerms.l0]) (Ev.pos (by omega) (Ev.pos (by omega) (Ev.pos (by omega) ?_)))
      rw [rd_nat _ _ hlt, inc (by omega), drop_cons hlt, areT, all_cons]
      refine Ev.bindc (impl_term _) ?_
      cases h : inr l[i] (-80) 19 with
      | true => exact Ev.pos rfl (Ev.eq (ih (i + 1) (by omega)) rfl (by simp only [Bool.true_and]; rfl))
      | false => exact Ev.neg (by simp) (Ev.const rfl)
  exact Ev.eq (loop l.length 0 (by omega)) (by funext k; rw [impl_areTerms.f]; rfl) (by simp)
theorem spec_areT (l : List Int) (hl : l.length ≤ 1048576) : Ev (fun k => spec_l3Terms.f k l) (areT l && decide (l.length ≤ 3)) := by
  have loop : ∀ (d i : Nat), i + d = l.length → Ev (fun k => spec_l3Terms.l0 k l (i : Int)) (areT (l.drop i) && decide (l.length ≤ 3)) := by
    intro d
    induction d with
    | zero =>
      intro i hi
      obtain rfl : i = l.length := by omega
      rw [List.drop_length]
      refine Ev.step (fun k => by rw [spec_l3Terms.l0]) (Ev.neg (by omega) (Ev.const ?_))
      simp [areT]; omega
    | succ d ih =>
      intro i hi
      have hlt : i < l.length := by omega
      refine Ev.step (fun k => by rw [spec_l3Terms.l0]) (Ev.pos (by omega) (Ev.pos (by omega) ?_))
      rw [rd_nat _ _ hlt, inc (by omega), drop_cons hlt, areT, all_cons]
      refine Ev.bindc (spec_term _) ?_
      cases h : inr l[i] (-80) 19 with
      | true => exact Ev.pos rfl (Ev.eq (ih (i + 1) (by omega)) rfl (by simp only [Bool.true_and]; rfl))
      | false => exact Ev.neg (by simp) (Ev.const rfl)
  exact Ev.eq (loop l.length 0 (by omega)) (by funext k; rw [spec_l3Terms.f]; rfl) (by simp)
theorem rdA (l : List S153) (i : Nat) (h : i < l.length) : rd_T153 l (i : Int) = l[i] := by rw [rd_T153]; exact getD_nat _ _ _ h
end Go.Proofs.Ytjiipeidginjnaa.PQuery

namespace Go.Proofs.Ytjiipeidginjnaa.PFmtQ
open Go.RowKit Go.Proofs.Ytjiipeidginjnaa.PSchema Go.Proofs.Ytjiipeidginjnaa.P Go.Proofs.YtjiipeidginjnaaW.PrintWords Go.Proofs.YtjiipeidginjnaaW.PrintLast Go.Proofs.Ytjiipeidginjnaa.PB Go.Proofs.Ytjiipeidginjnaa.PNum Go.Proofs.Ytjiipeidginjnaa.PJoin Go.Proofs.Ytjiipeidginjnaa.PIn Go.Proofs.Ytjiipeidginjnaa.PFact Go.Proofs.Ytjiipeidginjnaa.PTerm Go.Proofs.Ytjiipeidginjnaa.PQuery
set_option linter.unusedVariables false

theorem toList_len (s : ByteArray) : s.toList.length = s.size := by rw [ByteArray.toList_eq, Array.length_toList]; rfl
theorem wf_of {x : Int} (h1 : -9223372036854775808 ≤ x) (h2 : x ≤ 9223372036854775807) : (Lit.int .i64 x).wf = true := by
  simp only [Lit.wf, Bool.and_eq_true, decide_eq_true_eq]
  exact ⟨by simpa [IntKind.min, IntKind.bits, IntKind.signed] using h1, by simpa [IntKind.max, IntKind.bits, IntKind.signed] using h2⟩
theorem inr_iff {a lo hi : Int} : inr a lo hi = true ↔ lo ≤ a ∧ a ≤ hi := by simp [inr]
def xB : ByteArray := ⟨#[88]⟩
/-- The text of a term. -/
def termB (t : Int) : ByteArray := if inr t 0 19 = true then xB ++ fmt t else if inr t (-80) (-1) = true then fmt (cst t) else ⟨#[]⟩
theorem term_size (t : Int) : (termB t).size ≤ 22 := by
  unfold termB
  have h1 := fmt_size t; have h2 := fmt_size (cst t)
  have e1 : xB.size = 1 := rfl
  have e2 : (⟨#[]⟩ : ByteArray).size = 0 := rfl
  split
  · rw [ByteArray.size_append]; omega
  · split <;> omega
theorem spec_termB (t : Int) : Ev (fun k => spec_FormatTerm.f k t) (termB t) := by
  unfold spec_FormatTerm.f
  refine Ev.bindc (spec_var t) ?_
  by_cases h : inr t 0 19 = true
  · have h' := inr_iff.1 h
    have hs := fmt_size t
    refine Ev.pos h (Ev.bind (spec_ev (wf_of (by omega) (by omega))) (Ev.pos (by omega) (Ev.const ?_)))
    rw [termB, if_pos h]; rfl
  · refine Ev.neg h (Ev.bindc (spec_cst t) ?_)
    by_cases h2 : inr t (-80) (-1) = true
    · have h' := inr_iff.1 h2
      have hc : cst t = -1 - t := by rw [cst, if_pos h2]
      refine Ev.pos (by omega) (Ev.bindc (spec_cst t) ?_)
      refine Ev.eq (Ev.last (f := fun x => x) (spec_ev (x := cst t) (wf_of (by omega) (by omega)))) rfl ?_
      rw [termB, if_neg h, if_pos h2]
    · have hc : cst t = -1 := by rw [cst, if_neg h2]
      refine Ev.neg (by omega) (Ev.const ?_)
      rw [termB, if_neg h, if_neg h2]
theorem impl_termB (t : Int) : Ev (fun k => impl_FormatTerm.f k t) (termB t) := by
  unfold impl_FormatTerm.f
  refine Ev.bindc (impl_var t) ?_
  by_cases h : inr t 0 19 = true
  · have h' := inr_iff.1 h
    have hs := fmt_size t
    refine Ev.pos h (Ev.bind (impl_ev (wf_of (by omega) (by omega))) (Ev.pos (by omega) (Ev.const ?_)))
    rw [termB, if_pos h]; rfl
  · refine Ev.neg h (Ev.bindc (impl_term t) ?_)
    have hn : ¬ (0 ≤ t ∧ t ≤ 19) := fun x => h (inr_iff.2 x)
    by_cases h2 : inr t (-80) (-1) = true
    · have h' := inr_iff.1 h2
      have hc : cst t = -1 - t := by rw [cst, if_pos h2]
      refine Ev.pos (inr_iff.2 (by omega)) (Ev.bindc (impl_cst t) ?_)
      refine Ev.eq (Ev.last (f := fun x => x) (impl_ev (x := cst t) (wf_of (by omega) (by omega)))) rfl ?_
      rw [termB, if_neg h, if_pos h2]
    · have hn2 : ¬ (-80 ≤ t ∧ t ≤ -1) := fun x => h2 (inr_iff.2 x)
      refine Ev.neg (fun x => by have := inr_iff.1 x; omega) (Ev.const ?_)
      rw [termB, if_neg h, if_neg h2]
/-- Terms with commas between. -/
def termsB (l : List Int) : ByteArray := jn comma false ⟨#[]⟩ (l.map termB)
theorem terms_size (l : List Int) : (termsB l).size ≤ l.length * 23 := by
  have h1 := jn_size comma (l.map termB) false ⟨#[]⟩
  have h2 := total_map comma termB 22 l (fun x _ => term_size x)
  have e : comma.size = 1 := rfl
  have e0 : (⟨#[]⟩ : ByteArray).size = 0 := rfl
  rw [e] at h2
  unfold termsB; omega
theorem spec_list (l : List Int) (hl : l.length ≤ 1048576) : Ev (fun k => spec_l3List.f k l) (termsB l) := by
  have loop : ∀ (d i : Nat) (s : ByteArray), i + d = l.length → s.size ≤ 30 * i → Ev (fun k => spec_l3List.l0 k l s (i : Int)) (jn comma (decide (0 < i)) s ((l.drop i).map termB)) := by
    intro d
    induction d with
    | zero =>
      intro i s hi hs
      rw [List.drop_of_length_le (by omega)]
      refine Ev.step (fun k => by rw [spec_l3List.l0]) ?_
      exact Ev.neg (by omega) (Ev.const rfl)
    | succ d ih =>
      intro i s hi hs
      have hlt : i < l.length := by omega
      have hf := term_size l[i]
      have c1 : (⟨#[44]⟩ : ByteArray).size = 1 := rfl
      refine Ev.step (fun k => by rw [spec_l3List.l0]) ?_
      refine Ev.pos (by omega) ?_
      rw [rd_nat _ _ hlt, inc (by omega), drop_cons hlt, List.map_cons]
      by_cases h0 : 0 < i
      · refine Ev.pos (by omega) (Ev.pos (by omega) (Ev.pos (by omega) (Ev.bind (spec_termB _) (Ev.pos (by rw [ByteArray.size_append]; omega) ?_))))
        refine Ev.eq (ih (i + 1) _ (by omega) (by simp only [ByteArray.size_append]; omega)) rfl ?_
        rw [decide_eq_true h0, decide_eq_true (Nat.succ_pos i), jn]; rfl
      · obtain rfl : i = 0 := by omega
        refine Ev.neg (by omega) (Ev.pos (by omega) (Ev.bind (spec_termB _) (Ev.pos (by omega) ?_)))
        refine Ev.eq (ih (0 + 1) _ (by omega) (by simp only [ByteArray.size_append]; omega)) rfl ?_
        rfl
  have e0 : (⟨#[]⟩ : ByteArray).size = 0 := rfl
  exact Ev.eq (loop l.length 0 ⟨#[]⟩ (by omega) (by omega)) (by funext k; rw [spec_l3List.f]; rfl) (by rw [termsB, List.drop_zero]; rfl)
def okAtom (rel : Int) (args : List Int) : Bool := inr rel 0 3 && (areT args && decide (args.length ≤ 3))
/-- The text of an atom. -/
def atomB (rel : Int) (args : List Int) : ByteArray := if okAtom rel args = true then (((rB ++ fmt rel) ++ openB) ++ termsB args) ++ closeB else ⟨#[]⟩
theorem atom_size (rel : Int) (args : List Int) : (atomB rel args).size ≤ 100 := by
  unfold atomB
  split
  · rename_i h
    have hl : args.length ≤ 3 := by simp only [okAtom, Bool.and_eq_true, decide_eq_true_eq] at h; exact h.2.2
    have h1 := fmt_size rel; have h2 := terms_size args
    have e1 : rB.size = 1 := rfl
    have e2 : openB.size = 1 := rfl
    have e3 : closeB.size = 1 := rfl
    simp only [ByteArray.size_append]; omega
  · show 0 ≤ 100; omega
theorem spec_atom (rel : Int) (args : List Int) (ha : args.length ≤ 1048576) : Ev (fun k => spec_FormatAtom.f k rel args) (atomB rel args) := by
  unfold spec_FormatAtom.f
  have out : okAtom rel args = false → Ev (fun k => spec_FormatAtom.j0 k true rel args) (atomB rel args) := by
    intro h
    rw [atomB, h]
    refine Ev.step (fun k => by rw [spec_FormatAtom.j0]) ?_
    exact Ev.pos rfl (Ev.const rfl)
  refine Ev.bindc (spec_in _ _ _) ?_
  cases h1 : inr rel 0 3 with
  | false => exact Ev.neg (by simp) (out (by simp [okAtom, h1]))
  | true =>
    have h' := inr_iff.1 h1
    refine Ev.pos rfl (Ev.bind (spec_areT args ha) ?_)
    cases h2 : (areT args && decide (args.length ≤ 3)) with
    | false => exact out (by simp only [okAtom, h2, Bool.and_false])
    | true =>
      have hl : args.length ≤ 3 := by simp only [Bool.and_eq_true, decide_eq_true_eq] at h2; exact h2.2
      have hf := fmt_size rel; have ht := terms_size args
      have c1 : (⟨#[114]⟩ : ByteArray).size = 1 := rfl
      have c2 : (⟨#[40]⟩ : ByteArray).size = 1 := rfl
      refine Ev.step (fun k => by rw [spec_FormatAtom.j0]) ?_
      refine Ev.neg (by simp) (Ev.bind (spec_ev (wf_of (by omega) (by omega))) (Ev.pos (by omega) (Ev.pos (by rw [ByteArray.size_append]; omega) (Ev.bind (spec_list args ha) (Ev.pos (by simp only [ByteArray.size_append]; omega) (Ev.pos (by simp only [ByteArray.size_append]; omega) (Ev.const ?_)))))))
      rw [atomB, if_pos (by simp only [okAtom, h1, h2, Bool.and_self])]; rfl
theorem impl_atom (rel : Int) (args : List Int) (ha : args.length ≤ 1048576) : Ev (fun k => impl_FormatAtom.f k rel args) (atomB rel args) := by
  unfold impl_FormatAtom.f
  have out : okAtom rel args = false → Ev (fun k => impl_FormatAtom.j0 k true rel args) (atomB rel args) := by
    intro h
    rw [atomB, h]
    refine Ev.step (fun k => by rw [impl_FormatAtom.j0]) ?_
    exact Ev.pos rfl (Ev.const rfl)
  refine Ev.bindc (impl_in _ _ _) ?_
  cases h1 : inr rel 0 3 with
  | false => exact Ev.neg (by simp) (out (by simp [okAtom, h1]))
  | true =>
    have h' := inr_iff.1 h1
    refine Ev.pos rfl ?_
    by_cases hl : args.length ≤ 3
    · refine Ev.neg (by omega) (Ev.bind (impl_areT args ha) ?_)
      cases h2 : areT args with
      | false => exact out (by simp [okAtom, h2])
      | true =>
        have hok : okAtom rel args = true := by simp [okAtom, h1, h2, hl]
        have hf := fmt_size rel; have ht := terms_size args
        have c1 : (⟨#[114]⟩ : ByteArray).size = 1 := rfl
        have c2 : (⟨#[40]⟩ : ByteArray).size = 1 := rfl
        have hw : (Lit.int .i64 rel).wf = true := wf_of (by omega) (by omega)
        have loop : ∀ (d i : Nat), i + d = args.length → Ev (fun k => impl_FormatAtom.l0 k ((args.take i).map termB) args (args.length : Int) (i : Int) rel args) (atomB rel args) := by
          intro d
          induction d with
          | zero =>
            intro i hi
            rw [List.take_of_length_le (by omega)]
            refine Ev.step (fun k => by rw [impl_FormatAtom.l0]) ?_
            refine Ev.neg (by omega) (Ev.bind (impl_ev hw) (Ev.pos (by omega) (Ev.pos (by rw [ByteArray.size_append]; omega) ?_)))
            have tm := total_map comma termB 22 args (fun x _ => term_size x)
            have ce : comma.size = 1 := rfl
            rw [ce] at tm
            refine Ev.bind (glued_ev comma (args.map termB) (by rw [List.length_map]; omega) (by omega)) ?_
            have ht' : (jn comma false ⟨#[]⟩ (args.map termB)).size ≤ args.length * 23 := ht
            refine Ev.pos (by simp only [ByteArray.size_append]; omega) (Ev.pos (by simp only [ByteArray.size_append]; omega) (Ev.const ?_))
            rw [atomB, if_pos hok]; rfl
          | succ d ih =>
            intro i hi
            have hlt : i < args.length := by omega
            refine Ev.step (fun k => by rw [impl_FormatAtom.l0]) ?_
            refine Ev.pos (by omega) (Ev.pos (by omega) (Ev.pos (by omega) ?_))
            rw [rd_nat _ _ hlt, inc (by omega)]
            refine Ev.bind (impl_termB _) (Ev.pos (by rw [List.length_map, List.length_take]; omega) ?_)
            refine Ev.eq (ih (i + 1) (by omega)) ?_ rfl
            funext k
            rw [take_snoc hlt, List.map_append]; rfl
        refine Ev.step (fun k => by rw [impl_FormatAtom.j0]) ?_
        exact Ev.neg (by simp) (loop args.length 0 (by omega))
    · exact Ev.pos (by omega) (out (by simp [okAtom, hl]))
theorem rA_nil {rel : Int} {args : List Int} : (atomB rel args).toList = [] ↔ okAtom rel args = false := by
  cases h : okAtom rel args with
  | false => simp [atomB, h]
  | true =>
    have e3 : closeB.size = 1 := rfl
    constructor
    · intro x
      exfalso
      have hz : (atomB rel args).size = 0 := by
        have := toList_len (atomB rel args)
        rw [← this, x]; rfl
      rw [atomB, if_pos h] at hz
      simp only [ByteArray.size_append] at hz; omega
    · intro x; cases x
def semi : ByteArray := ⟨#[59, 32]⟩
def arrow : ByteArray := ⟨#[32, 58, 45, 32]⟩
def yesB : ByteArray := ⟨#[121, 101, 115]⟩
def aB (a : S153) : ByteArray := atomB a.f0 a.f1
def headB (head : List Int) : ByteArray := if head.length = 0 then yesB else termsB head
def okQ_ (head : List Int) (body : List S153) : Bool := (areT head && decide (head.length ≤ 3)) && inr body.length 1 8
def okAs (body : List S153) : Bool := body.all fun a => okAtom a.f0 a.f1
/-- The text of a query. -/
def queryB (head : List Int) (body : List S153) : ByteArray := if okQ_ head body = true then (if okAs body = true then (headB head ++ arrow) ++ jn semi false ⟨#[]⟩ (body.map aB) else ⟨#[]⟩) else ⟨#[]⟩
theorem head_size (head : List Int) (h : head.length ≤ 3) : (headB head).size ≤ 100 := by
  unfold headB
  have := terms_size head
  have e : yesB.size = 3 := rfl
  split <;> omega
theorem query_size (head : List Int) (body : List S153) : (queryB head body).size ≤ 2000 := by
  unfold queryB
  split
  · rename_i h
    split
    · simp only [okQ_, Bool.and_eq_true, decide_eq_true_eq] at h
      have h8 := inr_iff.1 h.2
      have h1 := head_size head h.1.2
      have h2 := jn_size semi (body.map aB) false ⟨#[]⟩
      have h3 := total_map semi aB 100 body (fun x _ => atom_size _ _)
      have e1 : semi.size = 2 := rfl
      have e2 : arrow.size = 4 := rfl
      have e0 : (⟨#[]⟩ : ByteArray).size = 0 := rfl
      rw [e1] at h3
      simp only [ByteArray.size_append]; omega
    · show 0 ≤ 2000; omega
  · show 0 ≤ 2000; omega
theorem spec_query (head : List Int) (body : List S153) (hh : head.length ≤ 1048576) (hl : body.length ≤ 1048576) (ha : ∀ a ∈ body, a.f1.length ≤ 1048576) : Ev (fun k => spec_FormatQuery.f k head body) (queryB head body) := by
  unfold spec_FormatQuery.f
  have out : okQ_ head body = false → Ev (fun k => spec_FormatQuery.j0 k true head body) (queryB head body) := by
    intro h
    rw [queryB, h]
    refine Ev.step (fun k => by rw [spec_FormatQuery.j0]) ?_
    exact Ev.pos rfl (Ev.const rfl)
  refine Ev.bind (spec_areT head hh) ?_
  cases h1 : (areT head && decide (head.length ≤ 3)) with
  | false => exact Ev.neg (by simp) (out (by simp only [okQ_, h1, Bool.false_and]))
  | true =>
    refine Ev.pos rfl (Ev.bindc (spec_in _ _ _) ?_)
    cases h2 : inr body.length 1 8 with
    | false => exact out (by simp only [okQ_, h2, Bool.and_false])
    | true =>
      have hok : okQ_ head body = true := by simp only [okQ_, h1, h2, Bool.and_self]
      have h8 := inr_iff.1 h2
      have h3 : head.length ≤ 3 := by simp only [Bool.and_eq_true, decide_eq_true_eq] at h1; exact h1.2
      have c2 : (⟨#[59, 32]⟩ : ByteArray).size = 2 := rfl
      have c4 : (⟨#[32, 58, 45, 32]⟩ : ByteArray).size = 4 := rfl
      have loop : ∀ (d i : Nat) (s : ByteArray), 0 < i → i + d = body.length → s.size ≤ 200 + 110 * i → Ev (fun k => spec_FormatQuery.l0 k s (i : Int) head body) (if okAs (body.drop i) = true then jn semi true s ((body.drop i).map aB) else ⟨#[]⟩) := by
        intro d
        induction d with
        | zero =>
          intro i s h0 hi hs
          rw [List.drop_of_length_le (by omega)]
          refine Ev.step (fun k => by rw [spec_FormatQuery.l0]) ?_
          exact Ev.neg (by omega) (Ev.const rfl)
        | succ d ih =>
          intro i s h0 hi hs
          have hlt : i < body.length := by omega
          have hf := atom_size (body[i]).f0 (body[i]).f1
          refine Ev.step (fun k => by rw [spec_FormatQuery.l0]) ?_
          refine Ev.pos (by omega) (Ev.pos (by omega) ?_)
          rw [rdA _ _ hlt, inc (by omega), drop_cons hlt, List.map_cons, okAs, all_cons]
          refine Ev.bind (spec_atom _ _ (ha _ (List.getElem_mem hlt))) ?_
          cases h4 : okAtom (body[i]).f0 (body[i]).f1 with
          | false => exact Ev.pos (rA_nil.2 h4) (Ev.const (by simp))
          | true =>
            refine Ev.neg (fun x => by rw [rA_nil.1 x] at h4; cases h4) (Ev.neg (by omega) (Ev.pos (by omega) (Ev.pos (by simp only [ByteArray.size_append]; omega) ?_)))
            refine Ev.eq (ih (i + 1) _ (by omega) (by omega) (by simp only [ByteArray.size_append]; omega)) rfl ?_
            simp only [Bool.true_and]; rfl
      have first : ∀ s : ByteArray, s.size ≤ 100 → Ev (fun k => spec_FormatQuery.l0 k s 0 head body) (if okAs body = true then (s ++ arrow) ++ jn semi false ⟨#[]⟩ (body.map aB) else ⟨#[]⟩) := by
        intro s hs
        have hlt : 0 < body.length := by omega
        have hf := atom_size (body[0]).f0 (body[0]).f1
        obtain ⟨a, r, rfl⟩ : ∃ a r, body = a :: r := by
          cases body with
          | nil => simp at hlt
          | cons a r => exact ⟨a, r, rfl⟩
        refine Ev.step (fun k => by rw [spec_FormatQuery.l0]) ?_
        refine Ev.pos (by omega) (Ev.pos (by omega) ?_)
        have e0 : rd_T153 (a :: r) 0 = a := rdA (a :: r) 0 hlt
        have e1 : wrap64 ((0 : Int) + 1) = ((1 : Nat) : Int) := by rw [w64 (by omega) (by omega)]; rfl
        rw [e0, e1, okAs, all_cons]
        refine Ev.bind (spec_atom _ _ (ha _ (by simp))) ?_
        cases h4 : okAtom a.f0 a.f1 with
        | false => exact Ev.pos (rA_nil.2 h4) (Ev.const (by simp))
        | true =>
          have hf' : (atomB a.f0 a.f1).size ≤ 100 := atom_size _ _
          refine Ev.neg (fun x => by rw [rA_nil.1 x] at h4; cases h4) (Ev.pos rfl (Ev.pos (by omega) (Ev.pos (by simp only [ByteArray.size_append]; omega) ?_)))
          refine Ev.eq (loop r.length 1 _ (by omega) (by simp; omega) (by simp only [ByteArray.size_append]; omega)) rfl ?_
          simp only [Bool.true_and]
          show (if okAs r = true then jn semi true ((s ++ arrow) ++ aB a) (r.map aB) else ⟨#[]⟩) = if okAs r = true then (s ++ arrow) ++ jn semi true (⟨#[]⟩ ++ aB a) (r.map aB) else ⟨#[]⟩
          rw [ba_nil, jn_pre]
      have hs1 := head_size head h3
      refine Ev.step (fun k => by rw [spec_FormatQuery.j0]) ?_
      refine Ev.neg (by simp) (Ev.bind (spec_list head hh) ?_)
      have fin : Ev (fun k => spec_FormatQuery.j1 k (headB head) head body) (queryB head body) := by
        refine Ev.eq (Ev.step (fun k => by rw [spec_FormatQuery.j1]) (first (headB head) hs1)) rfl ?_
        rw [queryB, if_pos hok]
      by_cases h5 : head.length = 0
      · refine Ev.pos (by omega) (Ev.eq fin ?_ rfl)
        funext k; rw [headB, if_pos h5]; rfl
      · refine Ev.neg (by omega) (Ev.eq fin ?_ rfl)
        funext k; rw [headB, if_neg h5]
theorem impl_query (head : List Int) (body : List S153) (hh : head.length ≤ 1048576) (hl : body.length ≤ 1048576) (ha : ∀ a ∈ body, a.f1.length ≤ 1048576) : Ev (fun k => impl_FormatQuery.f k head body) (queryB head body) := by
  unfold impl_FormatQuery.f
  have out : okQ_ head body = false → Ev (fun k => impl_FormatQuery.j0 k true head body) (queryB head body) := by
    intro h
    rw [queryB, h]
    refine Ev.step (fun k => by rw [impl_FormatQuery.j0]) ?_
    exact Ev.pos rfl (Ev.const rfl)
  by_cases h3 : head.length ≤ 3
  · refine Ev.neg (by omega) (Ev.bind (impl_areT head hh) ?_)
    cases h1 : areT head with
    | false => exact Ev.neg (by simp) (out (by simp [okQ_, h1]))
    | true =>
      refine Ev.pos rfl (Ev.bindc (impl_in _ _ _) ?_)
      cases h2 : inr body.length 1 8 with
      | false => exact out (by simp [okQ_, h2])
      | true =>
        have hok : okQ_ head body = true := by simp [okQ_, h1, h2, h3]
        have h8 := inr_iff.1 h2
        have hs1 := head_size head h3
        have ce : comma.size = 1 := rfl
        have se : semi.size = 2 := rfl
        have ye : yesB.size = 3 := rfl
        have c4 : (⟨#[32, 58, 45, 32]⟩ : ByteArray).size = 4 := rfl
        have e00 : (⟨#[]⟩ : ByteArray).size = 0 := rfl
        have tm := total_map comma termB 22 head (fun x _ => term_size x)
        have ts := total_map semi aB 100 body (fun x _ => atom_size _ _)
        have js := jn_size semi (body.map aB) false ⟨#[]⟩
        rw [ce] at tm; rw [se] at ts
        have loop1 : ∀ (d i : Nat), i + d = body.length → Ev (fun k => impl_FormatQuery.l1 k (head.map termB) ((body.take i).map aB) body (body.length : Int) (i : Int)) (if okAs (body.drop i) = true then (headB head ++ arrow) ++ jn semi false ⟨#[]⟩ (body.map aB) else ⟨#[]⟩) := by
          intro d
          induction d with
          | zero =>
            intro i hi
            rw [List.take_of_length_le (by omega), List.drop_of_length_le (by omega)]
            refine Ev.step (fun k => by rw [impl_FormatQuery.l1]) ?_
            refine Ev.neg (by omega) ?_
            refine Ev.bind (glued_ev comma (head.map termB) (by rw [List.length_map]; omega) (by omega)) ?_
            have gs := glued_ev semi (body.map aB) (by rw [List.length_map]; omega) (by omega)
            by_cases h5 : head.length = 0
            · refine Ev.pos (by rw [List.length_map]; omega) (Ev.pos (by omega) (Ev.bind gs (Ev.pos (by omega) (Ev.const ?_))))
              rw [headB, if_pos h5]; rfl
            · have hs2 : (jn comma false ⟨#[]⟩ (head.map termB)).size ≤ head.length * 23 := terms_size head
              refine Ev.neg (by rw [List.length_map]; omega) (Ev.pos (by omega) (Ev.bind gs (Ev.pos (by simp only [ByteArray.size_append]; omega) (Ev.const ?_))))
              rw [headB, if_neg h5]; rfl
          | succ d ih =>
            intro i hi
            have hlt : i < body.length := by omega
            refine Ev.step (fun k => by rw [impl_FormatQuery.l1]) ?_
            refine Ev.pos (by omega) (Ev.pos (by omega) (Ev.pos (by omega) ?_))
            rw [rdA _ _ hlt, inc (by omega), drop_cons hlt, okAs, all_cons]
            refine Ev.bind (impl_atom _ _ (ha _ (List.getElem_mem hlt))) ?_
            cases h4 : okAtom (body[i]).f0 (body[i]).f1 with
            | false => exact Ev.pos (rA_nil.2 h4) (Ev.const (by simp))
            | true =>
              refine Ev.neg (fun x => by rw [rA_nil.1 x] at h4; cases h4) (Ev.pos (by rw [List.length_map, List.length_take]; omega) ?_)
              refine Ev.eq (ih (i + 1) (by omega)) ?_ (by simp only [Bool.true_and]; rfl)
              funext k
              rw [take_snoc hlt, List.map_append]; rfl
        have loop0 : ∀ (d i : Nat), i + d = head.length → Ev (fun k => impl_FormatQuery.l0 k ((head.take i).map termB) [] head (head.length : Int) (i : Int) head body) (queryB head body) := by
          intro d
          induction d with
          | zero =>
            intro i hi
            rw [List.take_of_length_le (by omega)]
            refine Ev.step (fun k => by rw [impl_FormatQuery.l0]) ?_
            refine Ev.neg (by omega) ?_
            refine Ev.eq (loop1 body.length 0 (by omega)) rfl ?_
            rw [queryB, if_pos hok, List.drop_zero]
          | succ d ih =>
            intro i hi
            have hlt : i < head.length := by omega
            refine Ev.step (fun k => by rw [impl_FormatQuery.l0]) ?_
            refine Ev.pos (by omega) (Ev.pos (by omega) (Ev.pos (by omega) ?_))
            rw [rd_nat _ _ hlt, inc (by omega)]
            refine Ev.bind (impl_termB _) (Ev.pos (by rw [List.length_map, List.length_take]; omega) ?_)
            refine Ev.eq (ih (i + 1) (by omega)) ?_ rfl
            funext k
            rw [take_snoc hlt, List.map_append]; rfl
        refine Ev.step (fun k => by rw [impl_FormatQuery.j0]) ?_
        exact Ev.neg (by simp) (loop0 head.length 0 (by omega))
  · exact Ev.pos (by omega) (out (by simp [okQ_, h3]))
def eqB : ByteArray := ⟨#[61]⟩
def pairB (v t : Int) : ByteArray := (termB v ++ eqB) ++ termB t
theorem pair_size (v t : Int) : (pairB v t).size ≤ 45 ∧ 1 ≤ (pairB v t).size := by
  have h1 := term_size v; have h2 := term_size t
  have e : eqB.size = 1 := rfl
  unfold pairB; simp only [ByteArray.size_append]; omega
def mapL : Nat → List Int → Option (List ByteArray)
  | _, [] => some []
  | i, t :: r => if t = -1000 then mapL (i + 1) r else if (inr i 0 19 && inr t (-80) 19) = true then (mapL (i + 1) r).map (fun l => pairB i t :: l) else none
def fin (s : ByteArray) : Option (List ByteArray) → ByteArray
  | none => ⟨#[]⟩
  | some l => if s.size = 0 then (if l.length = 0 then none_ else jn blankB false s l) else jn blankB true s l
def mapB (m : List Int) : ByteArray := fin ⟨#[]⟩ (mapL 0 m)
theorem size_nil {s : ByteArray} : s.toList = [] ↔ s.size = 0 := by
  constructor
  · intro x
    have := toList_len s
    rw [← this, x]; rfl
  · intro x
    have := toList_len s
    exact List.length_eq_zero_iff.1 (by omega)
theorem mapL_len : ∀ (l : List Int) (i : Nat) (r : List ByteArray), mapL i l = some r → r.length ≤ 20 - i ∧ ∀ x ∈ r, x.size ≤ 45 := by
  intro l
  induction l with
  | nil => intro i r h; simp only [mapL, Option.some.injEq] at h; subst h; simp
  | cons t l ih =>
    intro i r h
    rw [mapL] at h
    split at h
    · have := ih _ _ h; exact ⟨by omega, this.2⟩
    · split at h
      · rename_i h1 h2
        simp only [Bool.and_eq_true] at h2
        have := inr_iff.1 h2.1
        cases h3 : mapL (i + 1) l with
        | none => rw [h3] at h; simp at h
        | some q =>
          rw [h3] at h; simp only [Option.map_some, Option.some.injEq] at h; subst h
          have h4 := ih _ _ h3
          refine ⟨by simp only [List.length_cons]; omega, fun x hx => ?_⟩
          rcases List.mem_cons.1 hx with rfl | hx
          · exact (pair_size _ _).1
          · exact h4.2 x hx
      · cases h
theorem total_le (b : ByteArray) (B : Nat) (l : List ByteArray) (h : ∀ x ∈ l, x.size ≤ B) : total b l ≤ l.length * (b.size + B) := by
  have := total_map b (fun x => x) B l h
  simpa using this
theorem map_size (m : List Int) : (mapB m).size ≤ 2000 := by
  unfold mapB
  cases h : mapL 0 m with
  | none => show 0 ≤ 2000; omega
  | some l =>
    have h1 := mapL_len m 0 l h
    have h2 := total_le blankB 45 l h1.2
    have h3 := jn_size blankB l false ⟨#[]⟩
    have h4 := jn_size blankB l true ⟨#[]⟩
    have e : blankB.size = 1 := rfl
    have e0 : (⟨#[]⟩ : ByteArray).size = 0 := rfl
    have en : none_.size = 4 := rfl
    rw [e] at h2
    simp only [fin]
    split
    · split <;> omega
    · omega
theorem spec_map (m : List Int) (hm : m.length ≤ 1048576) : Ev (fun k => spec_FormatMapping.f k m) (mapB m) := by
  have loop : ∀ (d i : Nat) (s : ByteArray), i + d = m.length → s.size ≤ 50 * i → Ev (fun k => spec_FormatMapping.l0 k m s (i : Int)) (fin s (mapL i (m.drop i))) := by
    intro d
    induction d with
    | zero =>
      intro i s hi hs
      rw [List.drop_of_length_le (by omega)]
      refine Ev.step (fun k => by rw [spec_FormatMapping.l0]) ?_
      refine Ev.neg (by omega) ?_
      by_cases h : s.size = 0
      · exact Ev.pos (size_nil.2 h) (Ev.const (by simp only [mapL, fin]; rw [if_pos h]; rfl))
      · exact Ev.neg (fun x => h (size_nil.1 x)) (Ev.const (by simp only [mapL, fin]; rw [if_neg h]; rfl))
    | succ d ih =>
      intro i s hi hs
      have hlt : i < m.length := by omega
      refine Ev.step (fun k => by rw [spec_FormatMapping.l0]) ?_
      refine Ev.pos (by omega) (Ev.pos (by omega) ?_)
      rw [rd_nat _ _ hlt, inc (by omega), drop_cons hlt, mapL]
      have out : (inr (i : Int) 0 19 && inr m[i] (-80) 19) = false → Ev (fun k => spec_FormatMapping.j1 k m s (i : Int) true) (fin s (if (inr (i : Int) 0 19 && inr m[i] (-80) 19) = true then (mapL (i + 1) (m.drop (i + 1))).map (fun l => pairB i m[i] :: l) else none)) := by
        intro h; rw [h]
        refine Ev.step (fun k => by rw [spec_FormatMapping.j1]) ?_
        exact Ev.pos rfl (Ev.const rfl)
      by_cases h0 : m[i] = -1000
      · refine Ev.pos h0 (Ev.eq (ih (i + 1) s (by omega) (by omega)) rfl ?_)
        rw [if_pos h0]
      · refine Ev.neg h0 (Ev.bindc (spec_term _) ?_)
        rw [if_neg h0]
        cases h1 : inr m[i] (-80) 19 with
        | false => rw [h1] at out; exact Ev.neg (by simp) (out (by simp))
        | true =>
          rw [h1] at out
          refine Ev.pos rfl (Ev.bindc (spec_var _) ?_)
          cases h2 : inr (i : Int) 0 19 with
          | false => rw [h2] at out; exact out rfl
          | true =>
            have p1 := term_size (i : Int); have p2 := term_size m[i]
            have c1 : (⟨#[61]⟩ : ByteArray).size = 1 := rfl
            have c2 : (⟨#[32]⟩ : ByteArray).size = 1 := rfl
            have pz : (pairB (i : Int) m[i]).size = ((termB i).size + 1) + (termB m[i]).size := by unfold pairB; simp only [ByteArray.size_append]; rfl
            refine Ev.step (fun k => by rw [spec_FormatMapping.j1]) ?_
            refine Ev.neg (by simp) ?_
            rw [rd_nat _ _ hlt, inc (by omega)]
            have key : ∀ s' : ByteArray, s'.size = s.size + (if s.size = 0 then 0 else 1) + (pairB (i : Int) m[i]).size → s' = (if s.size = 0 then s ++ pairB i m[i] else (s ++ blankB) ++ pairB i m[i]) → fin s' (mapL (i + 1) (m.drop (i + 1))) = fin s (if (true && true) = true then (mapL (i + 1) (m.drop (i + 1))).map (fun l => pairB i m[i] :: l) else none) := by
              intro s' hz he
              rw [if_pos (by rfl)]
              cases mapL (i + 1) (m.drop (i + 1)) with
              | none => rfl
              | some l =>
                simp only [Option.map_some, fin]
                rw [if_neg (by omega)]
                by_cases hs0 : s.size = 0
                · rw [if_pos hs0, if_neg (by simp)]
                  rw [if_pos hs0] at he; subst he; rfl
                · rw [if_neg hs0]
                  rw [if_neg hs0] at he; subst he; rfl
            by_cases hs0 : s.size = 0
            · refine Ev.pos (size_nil.2 hs0) (Ev.bind (spec_termB _) (Ev.pos (by omega) (Ev.pos (by rw [ByteArray.size_append]; omega) (Ev.pos (by omega) (Ev.pos (by omega) (Ev.bind (spec_termB _) (Ev.pos (by simp only [ByteArray.size_append]; omega) ?_)))))))
              refine Ev.eq (ih (i + 1) _ (by omega) (by simp only [ByteArray.size_append]; omega)) rfl (key _ ?_ ?_)
              · rw [if_pos hs0, pz]; simp only [ByteArray.size_append]; omega
              · rw [if_pos hs0, pairB]; simp only [ba_assoc]; rfl
            · refine Ev.neg (fun x => hs0 (size_nil.1 x)) (Ev.pos (by omega) (Ev.bind (spec_termB _) (Ev.pos (by simp only [ByteArray.size_append]; omega) (Ev.pos (by simp only [ByteArray.size_append]; omega) (Ev.pos (by omega) (Ev.pos (by omega) (Ev.bind (spec_termB _) (Ev.pos (by simp only [ByteArray.size_append]; omega) ?_))))))))
              refine Ev.eq (ih (i + 1) _ (by omega) (by simp only [ByteArray.size_append]; omega)) rfl (key _ ?_ ?_)
              · rw [if_neg hs0, pz]; simp only [ByteArray.size_append]; omega
              · rw [if_neg hs0, pairB]; simp only [ba_assoc]; rfl
  have e0 : (⟨#[]⟩ : ByteArray).size = 0 := rfl
  exact Ev.eq (loop m.length 0 ⟨#[]⟩ (by omega) (by omega)) (by funext k; rw [spec_FormatMapping.f]; rfl) (by rw [mapB, List.drop_zero])
def done (acc : List ByteArray) : Option (List ByteArray) → ByteArray
  | none => ⟨#[]⟩
  | some l => if (acc ++ l).length = 0 then none_ else jn blankB false ⟨#[]⟩ (acc ++ l)
theorem impl_map (m : List Int) (hm : m.length ≤ 1048576) : Ev (fun k => impl_FormatMapping.f k m) (mapB m) := by
  have loop : ∀ (d i : Nat) (acc : List ByteArray), i + d = m.length → acc.length ≤ i → (∀ x ∈ acc, x.size ≤ 45) → Ev (fun k => impl_FormatMapping.l0 k acc m (m.length : Int) (i : Int)) (done acc (mapL i (m.drop i))) := by
    intro d
    induction d with
    | zero =>
      intro i acc hi hl hx
      rw [List.drop_of_length_le (by omega), mapL]
      refine Ev.step (fun k => by rw [impl_FormatMapping.l0]) ?_
      refine Ev.neg (by omega) ?_
      simp only [done, List.append_nil]
      by_cases h : acc.length = 0
      · rw [if_pos h]; exact Ev.pos (by omega) (Ev.const rfl)
      · rw [if_neg h]
        have h2 := total_le blankB 45 acc hx
        have e : blankB.size = 1 := rfl
        rw [e] at h2
        exact Ev.neg (by omega) (Ev.last (f := fun x => x) (glued_ev blankB acc (by omega) (by omega)))
    | succ d ih =>
      intro i acc hi hl hx
      have hlt : i < m.length := by omega
      refine Ev.step (fun k => by rw [impl_FormatMapping.l0]) ?_
      refine Ev.pos (by omega) (Ev.pos (by omega) (Ev.pos (by omega) ?_))
      rw [rd_nat _ _ hlt, inc (by omega), drop_cons hlt, mapL]
      have out : (inr (i : Int) 0 19 && inr m[i] (-80) 19) = false → Ev (fun k => impl_FormatMapping.j1 k acc (i : Int) m[i] m (m.length : Int) (i : Int) true) (done acc (if (inr (i : Int) 0 19 && inr m[i] (-80) 19) = true then (mapL (i + 1) (m.drop (i + 1))).map (fun l => pairB i m[i] :: l) else none)) := by
        intro h; rw [h]
        refine Ev.step (fun k => by rw [impl_FormatMapping.j1]) ?_
        exact Ev.pos rfl (Ev.const rfl)
      by_cases h0 : m[i] = -1000
      · refine Ev.pos h0 (Ev.eq (ih (i + 1) acc (by omega) (by omega) hx) rfl ?_)
        rw [if_pos h0]
      · refine Ev.neg h0 (Ev.bindc (impl_var _) ?_)
        rw [if_neg h0]
        cases h2 : inr (i : Int) 0 19 with
        | false => rw [h2] at out; exact Ev.neg (by simp) (out rfl)
        | true =>
          rw [h2] at out
          refine Ev.pos rfl (Ev.bindc (impl_term _) ?_)
          cases h1 : inr m[i] (-80) 19 with
          | false => rw [h1] at out; exact out rfl
          | true =>
            have p1 := term_size (i : Int); have p2 := term_size m[i]
            have c1 : (⟨#[61]⟩ : ByteArray).size = 1 := rfl
            refine Ev.step (fun k => by rw [impl_FormatMapping.j1]) ?_
            refine Ev.neg (by simp) (Ev.bind (impl_termB _) (Ev.pos (by omega) (Ev.bind (impl_termB _) (Ev.pos (by simp only [ByteArray.size_append]; omega) (Ev.pos (by omega) ?_)))))
            rw [inc (by omega)]
            have nx := ih (i + 1) (acc ++ [pairB i m[i]]) (by omega) (by simp; omega) (by
              intro x hx2
              rcases List.mem_append.1 hx2 with h | h
              · exact hx x h
              · simp only [List.mem_singleton] at h; subst h; exact (pair_size _ _).1)
            refine Ev.eq nx rfl ?_
            rw [if_pos (by rfl)]
            cases mapL (i + 1) (m.drop (i + 1)) with
            | none => rfl
            | some l => simp only [Option.map_some, done, List.append_assoc, List.singleton_append]
  refine Ev.eq (loop m.length 0 [] (by omega) (by simp) (by simp)) (by funext k; rw [impl_FormatMapping.f]; rfl) ?_
  rw [mapB, List.drop_zero]
  cases mapL 0 m with
  | none => rfl
  | some l => simp only [done, fin, List.nil_append]; rw [if_pos (show (⟨#[]⟩ : ByteArray).size = 0 from rfl)]
def byB : ByteArray := ⟨#[32, 98, 121, 32]⟩
def andB : ByteArray := ⟨#[32, 97, 110, 100, 32]⟩
def certB (head : List Int) (body : List S153) (f b : List Int) : ByteArray :=
  if (queryB head body).size = 0 then ⟨#[]⟩ else if (mapB f).size = 0 then ⟨#[]⟩ else if (mapB b).size = 0 then ⟨#[]⟩ else (((queryB head body ++ byB) ++ mapB f) ++ andB) ++ mapB b
theorem spec_cert (head : List Int) (body : List S153) (f b : List Int) (hh : head.length ≤ 1048576) (hl : body.length ≤ 1048576) (ha : ∀ a ∈ body, a.f1.length ≤ 1048576) (hf : f.length ≤ 1048576) (hb : b.length ≤ 1048576) :
    Ev (fun k => spec_FormatCertificate.f k head body f b) (certB head body f b) := by
  unfold spec_FormatCertificate.f
  refine Ev.bind (spec_query head body hh hl ha) (Ev.bind (spec_map f hf) (Ev.bind (spec_map b hb) ?_))
  have h1 := query_size head body; have h2 := map_size f; have h3 := map_size b
  have c4 : (⟨#[32, 98, 121, 32]⟩ : ByteArray).size = 4 := rfl
  have c5 : (⟨#[32, 97, 110, 100, 32]⟩ : ByteArray).size = 5 := rfl
  unfold certB
  by_cases z1 : (queryB head body).size = 0
  · rw [if_pos z1]; exact Ev.pos (size_nil.2 z1) (Ev.const rfl)
  rw [if_neg z1]; refine Ev.neg (fun x => z1 (size_nil.1 x)) ?_
  by_cases z2 : (mapB f).size = 0
  · rw [if_pos z2]; exact Ev.pos (size_nil.2 z2) (Ev.const rfl)
  rw [if_neg z2]; refine Ev.neg (fun x => z2 (size_nil.1 x)) ?_
  by_cases z3 : (mapB b).size = 0
  · rw [if_pos z3]; exact Ev.pos (size_nil.2 z3) (Ev.const rfl)
  rw [if_neg z3]; refine Ev.neg (fun x => z3 (size_nil.1 x)) ?_
  exact Ev.pos (by omega) (Ev.pos (by simp only [ByteArray.size_append]; omega) (Ev.pos (by simp only [ByteArray.size_append]; omega) (Ev.pos (by simp only [ByteArray.size_append]; omega) (Ev.const rfl))))
theorem impl_cert (head : List Int) (body : List S153) (f b : List Int) (hh : head.length ≤ 1048576) (hl : body.length ≤ 1048576) (ha : ∀ a ∈ body, a.f1.length ≤ 1048576) (hf : f.length ≤ 1048576) (hb : b.length ≤ 1048576) :
    Ev (fun k => impl_FormatCertificate.f k head body f b) (certB head body f b) := by
  unfold impl_FormatCertificate.f
  refine Ev.bind (impl_query head body hh hl ha) (Ev.bind (impl_map f hf) (Ev.bind (impl_map b hb) ?_))
  have h1 := query_size head body; have h2 := map_size f; have h3 := map_size b
  have c4 : (⟨#[32, 98, 121, 32]⟩ : ByteArray).size = 4 := rfl
  have c5 : (⟨#[32, 97, 110, 100, 32]⟩ : ByteArray).size = 5 := rfl
  unfold certB
  by_cases z1 : (queryB head body).size = 0
  · rw [if_pos z1]; exact Ev.pos (size_nil.2 z1) (Ev.const rfl)
  rw [if_neg z1]; refine Ev.neg (fun x => z1 (size_nil.1 x)) ?_
  by_cases z2 : (mapB f).size = 0
  · rw [if_pos z2]; exact Ev.pos (size_nil.2 z2) (Ev.const rfl)
  rw [if_neg z2]; refine Ev.neg (fun x => z2 (size_nil.1 x)) ?_
  by_cases z3 : (mapB b).size = 0
  · rw [if_pos z3]; exact Ev.pos (size_nil.2 z3) (Ev.const rfl)
  rw [if_neg z3]; refine Ev.neg (fun x => z3 (size_nil.1 x)) ?_
  exact Ev.pos (by omega) (Ev.pos (by simp only [ByteArray.size_append]; omega) (Ev.pos (by simp only [ByteArray.size_append]; omega) (Ev.pos (by simp only [ByteArray.size_append]; omega) (Ev.const rfl))))
end Go.Proofs.Ytjiipeidginjnaa.PFmtQ

namespace Go.Proofs.Ytjiipeidginjnaa.PLaw
open Go.RowKit Go.Proofs.Ytjiipeidginjnaa.P Go.Proofs.YtjiipeidginjnaaW.PrintWords Go.Proofs.YtjiipeidginjnaaW.PrintLast Go.Proofs.Ytjiipeidginjnaa.PB
set_option linter.unusedVariables false

def qIntS (l : List Int) : Prop := l.length ≤ 9223372036854775807 ∧ ∀ x ∈ l, (Lit.int .i64 x).wf = true
def nIntS (l : List Int) : Nat := l.length
def cIntS (l : List Int) : List Int := l
theorem szIntS (l : List Int) (a : Int) (h0 : 0 ≤ a) (h1 : a ≤ 1048576) (hl : qIntS l) : Ev (fun k => laws_szIntS.f l a) (if a < nIntS l then -1 else a - nIntS l) := by
  have hl1 := hl.1
  refine Ev.const ?_
  unfold laws_szIntS.f nIntS
  rw [w64 (by omega) (by omega)]
  by_cases h : a < l.length
  · rw [if_pos (by omega), if_pos h]
  · rw [if_neg (by omega), if_neg h]
theorem toIntS_loop (l : List Int) (hn : nIntS l ≤ 1048576) : ∀ (d i : Nat), i + d = l.length → Ev (fun k => laws_toIntS.l0 k l (cIntS (l.take i) ++ List.replicate d 0) (i : Int)) (cIntS l) := by
  have hlen : l.length ≤ 1048576 := by unfold nIntS at hn; omega
  intro d
  induction d with
  | zero =>
    intro i hi
    obtain rfl : i = l.length := by omega
    refine Ev.step (fun k => by rw [laws_toIntS.l0]) (Ev.neg (by omega) (Ev.const ?_))
    simp
  | succ d ih =>
    intro i hi
    have hlt : i < l.length := by omega
    refine Ev.step (fun k => by rw [laws_toIntS.l0]) (Ev.pos (by omega) (Ev.pos (by omega) ?_))
    rw [rd_nat _ _ hlt, inc (by omega)]
    refine Ev.pos (by simp [cIntS]; omega) ?_
    refine Ev.eq (ih (i + 1) (by omega)) ?_ rfl
    funext k
    have e : ((i : Int)).toNat = i := by omega
    have el : (cIntS (l.take i)).length = i := by simp [cIntS]; omega
    rw [e, fill_set' _ _ _ _ _ el, take_snoc hlt]
    try rfl
theorem toIntS (l : List Int) (hn : nIntS l ≤ 1048576) : Ev (fun k => laws_toIntS.f k l) (cIntS l) := by
  have h := toIntS_loop l hn l.length 0 (by omega)
  have hlen : l.length ≤ 1048576 := by unfold nIntS at hn; omega
  refine Ev.eq (Ev.pos (c := 0 ≤ (l.length : Int)) (g := fun _ => none) (by omega) (Ev.pos (c := ((l.length : Int) : Int).toNat ≤ 35184372088832) (g := fun _ => none) (by omega) h)) ?_ rfl
  funext k
  rw [laws_toIntS.f]; simp [cIntS]
theorem eqIntS_loop (l : List Int) (hl : l.length ≤ 4611686018427387000) : ∀ (d i : Nat), i + d = l.length → Ev (fun k => laws_eqIntS.l0 k l l (i : Int)) true := by
  intro d
  induction d with
  | zero =>
    intro i hi
    exact Ev.step (fun k => by rw [laws_eqIntS.l0]) (Ev.neg (by omega) (Ev.const rfl))
  | succ d ih =>
    intro i hi
    have hlt : i < l.length := by omega
    refine Ev.step (fun k => by rw [laws_eqIntS.l0]) (Ev.pos (by omega) (Ev.pos (by omega) (Ev.pos (by omega) (Ev.pos rfl ?_))))
    rw [inc (by omega)]
    exact ih (i + 1) (by omega)
theorem eqIntS (l : List Int) (hm : l.length ≤ 4611686018427387000) : Ev (fun k => laws_eqIntS.f k l l) true :=
  Ev.eq (Ev.pos (c := (l.length : Int) = l.length) (g := fun _ => some false) rfl (eqIntS_loop l hm l.length 0 (by omega))) (by funext k; rw [laws_eqIntS.f]; rfl) rfl
theorem mcIntS {l : List Int} (hn : nIntS l ≤ 1048576) : (cIntS l).length ≤ 4611686018427387000 := by unfold nIntS at hn; show l.length ≤ _; omega
end Go.Proofs.Ytjiipeidginjnaa.PLaw

namespace Go.Proofs.Ytjiipeidginjnaa.PLaw
open Go.RowKit Go.Proofs.Ytjiipeidginjnaa.P Go.Proofs.YtjiipeidginjnaaW.PrintWords Go.Proofs.YtjiipeidginjnaaW.PrintLast Go.Proofs.Ytjiipeidginjnaa.PB
set_option linter.unusedVariables false

def qAtom (x : S175) : Prop := ((Lit.int .i64 x.f0).wf = true) ∧ (qIntS x.f1)
def nAtom (x : S175) : Nat := nIntS x.f1
def cAtom (x : S175) : S153 := ⟨x.f0, cIntS x.f1⟩
def qAtomS (l : List S175) : Prop := l.length ≤ 9223372036854775807 ∧ ∀ x ∈ l, qAtom x
def nAtomS (l : List S175) : Nat := l.length + tsum nAtom l
def cAtomS (l : List S175) : List S153 := l.map cAtom
def mAtom (x : S153) : Prop := (True) ∧ (x.f1.length ≤ 4611686018427387000)
def mAtomS (l : List S153) : Prop := l.length ≤ 4611686018427387000 ∧ ∀ x ∈ l, mAtom x
theorem szAtom (x0 : Int) (x1 : List Int) (a : Int) (h0 : 0 ≤ a) (h1 : a ≤ 1048576) (qx0_ : (Lit.int .i64 x0).wf = true) (qx1_ : qIntS x1) : Ev (fun k => laws_szAtom.f x0 x1 a) (if a < ((nIntS x1 : Nat) : Int) then -1 else a - ((nIntS x1 : Nat) : Int)) := by
  unfold laws_szAtom.f
  have g0 : a ≤ 1048576 := by first | omega | exact h1
  refine Ev.bind (szIntS x1 a (by omega) (by omega) qx1_) ?_
  by_cases c0 : a < ((nIntS x1 : Nat) : Int)
  · rw [if_pos c0]
    exact Ev.pos (by omega) (Ev.const (by first | rfl | rw [if_pos (by omega)]))
  rw [if_neg c0]
  refine Ev.neg (by omega) ?_
  have e0 : a - ((nIntS x1 : Nat) : Int) = (a - ((nIntS x1 : Nat) : Int)) := by omega
  rw [e0]
  exact Ev.const (by first | rfl | rw [if_neg (by omega)])
theorem szAtomS_loop (l : List S175) (hl : l.length ≤ 1048576) (hb : ∀ x ∈ l, qAtom x) : ∀ (d i : Nat) (a : Int), i + d = l.length → 0 ≤ a → a ≤ 1048576 →
    Ev (fun k => laws_szAtomS.l0 k l a (i : Int)) (if a < tsum nAtom (l.drop i) then -1 else a - tsum nAtom (l.drop i)) := by
  intro d
  induction d with
  | zero =>
    intro i a hi h0 h1
    obtain rfl : i = l.length := by omega
    refine Ev.step (fun k => by rw [laws_szAtomS.l0]) (Ev.neg (by omega) (Ev.const ?_))
    simp [tsum]; omega
  | succ d ih =>
    intro i a hi h0 h1
    have hlt : i < l.length := by omega
    rw [drop_cons hlt, tsum_cons]
    refine Ev.step (fun k => by rw [laws_szAtomS.l0]) (Ev.pos (by omega) (Ev.pos (by omega) ?_))
    have e : rd_T175 l (i : Int) = l[i] := by rw [rd_T175]; exact getD_nat _ _ _ hlt
    rw [e, inc (by omega)]
    refine Ev.bind (szAtom (l[i].f0) (l[i].f1) a h0 h1 (hb _ (List.getElem_mem hlt)).1 (hb _ (List.getElem_mem hlt)).2) ?_
    by_cases h : a < nAtom l[i]
    · rw [if_pos (by first | exact h | (simp only [nAtom] at h; omega))]
      refine Ev.pos (by omega) (Ev.const ?_)
      rw [if_pos (by omega)]
    · rw [if_neg (by first | exact h | (simp only [nAtom] at h; omega))]
      refine Ev.neg (by first | omega | (simp only [nAtom] at h; omega)) (Ev.eq (ih (i + 1) _ (by omega) (by first | omega | (simp only [nAtom] at h; omega)) (by omega)) rfl ?_)
      by_cases h2 : a - nAtom l[i] < tsum nAtom (l.drop (i + 1))
      · rw [if_pos (by first | exact h2 | (simp only [nAtom] at h2 ⊢; omega)), if_pos (by omega)]
      · rw [if_neg (by first | exact h2 | (simp only [nAtom] at h2 ⊢; omega)), if_neg (by omega)]; first | omega | (simp only [nAtom]; omega)
theorem szAtomS (l : List S175) (a : Int) (h0 : 0 ≤ a) (h1 : a ≤ 1048576) (hq : qAtomS l) : Ev (fun k => laws_szAtomS.f k l a) (if a < nAtomS l then -1 else a - nAtomS l) := by
  have hl1 := hq.1
  have hw : wrap64 (a - (l.length : Int)) = a - l.length := w64 (by omega) (by omega)
  unfold nAtomS
  by_cases h : a < l.length
  · refine Ev.eq (Ev.const (r := -1) rfl) ?_ (by rw [if_pos (by omega)])
    funext k
    rw [laws_szAtomS.f, hw, if_pos (by omega)]
  · refine Ev.eq (szAtomS_loop l (by omega) hq.2 l.length 0 (a - l.length) (by omega) (by omega) (by omega)) ?_ ?_
    · funext k
      rw [laws_szAtomS.f, hw, if_neg (by omega)]; rfl
    · rw [List.drop_zero]
      by_cases h2 : a - l.length < tsum nAtom l
      · rw [if_pos h2, if_pos (by omega)]
      · rw [if_neg h2, if_neg (by omega)]; omega
theorem toAtom (x0 : Int) (x1 : List Int) (hn : nIntS x1 ≤ 1048576) : Ev (fun k => laws_toAtom.f k x0 x1) (x0, cIntS x1) := by
  unfold laws_toAtom.f
  refine Ev.bind (toIntS x1 (by omega)) ?_
  exact Ev.const rfl
theorem toAtomS_loop (l : List S175) (hn : nAtomS l ≤ 1048576) : ∀ (d i : Nat), i + d = l.length → Ev (fun k => laws_toAtomS.l0 k l (cAtomS (l.take i) ++ List.replicate d z153) (i : Int)) (cAtomS l) := by
  have hlen : l.length ≤ 1048576 := by unfold nAtomS at hn; omega
  intro d
  induction d with
  | zero =>
    intro i hi
    obtain rfl : i = l.length := by omega
    refine Ev.step (fun k => by rw [laws_toAtomS.l0]) (Ev.neg (by omega) (Ev.const ?_))
    simp
  | succ d ih =>
    intro i hi
    have hlt : i < l.length := by omega
    refine Ev.step (fun k => by rw [laws_toAtomS.l0]) (Ev.pos (by omega) (Ev.pos (by omega) ?_))
    have e : rd_T175 l (i : Int) = l[i] := by rw [rd_T175]; exact getD_nat _ _ _ hlt
    rw [e, inc (by omega)]
    have hx : nAtom l[i] ≤ 1048576 := by have := tsum_mem nAtom (List.getElem_mem hlt); unfold nAtomS at hn; omega
    refine Ev.bind (toAtom (l[i].f0) (l[i].f1) hx) (Ev.pos (by simp [cAtomS]; omega) ?_)
    refine Ev.eq (ih (i + 1) (by omega)) ?_ rfl
    funext k
    have e : ((i : Int)).toNat = i := by omega
    have el : (cAtomS (l.take i)).length = i := by simp [cAtomS]; omega
    rw [e, fill_set' _ _ _ _ _ el, take_snoc hlt]
    rw [show cAtomS (l.take i ++ [l[i]]) = cAtomS (l.take i) ++ [cAtom l[i]] from List.map_append ..]
    try rfl
theorem toAtomS (l : List S175) (hn : nAtomS l ≤ 1048576) : Ev (fun k => laws_toAtomS.f k l) (cAtomS l) := by
  have h := toAtomS_loop l hn l.length 0 (by omega)
  have hlen : l.length ≤ 1048576 := by unfold nAtomS at hn; omega
  refine Ev.eq (Ev.pos (c := 0 ≤ (l.length : Int)) (g := fun _ => none) (by omega) (Ev.pos (c := ((l.length : Int) : Int).toNat ≤ 8796093022208) (g := fun _ => none) (by omega) h)) ?_ rfl
  funext k
  rw [laws_toAtomS.f]; simp [cAtomS]
theorem eqAtom (x0 : Int) (x1 : List Int) (mx1_ : x1.length ≤ 4611686018427387000) : Ev (fun k => laws_eqAtom.f k x0 x1 x0 x1) true := by
  unfold laws_eqAtom.f
  first | refine Ev.pos rfl ?_ | skip
  refine Ev.bind (eqIntS x1 mx1_) (Ev.pos rfl ?_)
  exact Ev.const rfl
theorem eqAtomS_loop (l : List S153) (hl : l.length ≤ 4611686018427387000) (hb : ∀ x ∈ l, mAtom x) : ∀ (d i : Nat), i + d = l.length → Ev (fun k => laws_eqAtomS.l0 k l l (i : Int)) true := by
  intro d
  induction d with
  | zero =>
    intro i hi
    exact Ev.step (fun k => by rw [laws_eqAtomS.l0]) (Ev.neg (by omega) (Ev.const rfl))
  | succ d ih =>
    intro i hi
    have hlt : i < l.length := by omega
    refine Ev.step (fun k => by rw [laws_eqAtomS.l0]) (Ev.pos (by omega) (Ev.pos (by omega) (Ev.pos (by omega) ?_)))
    have e : rd_T153 l (i : Int) = l[i] := by rw [rd_T153]; exact getD_nat _ _ _ hlt
    rw [e, inc (by omega)]
    exact Ev.bind (eqAtom (l[i].f0) (l[i].f1) ((hb _ (List.getElem_mem hlt)).2)) (Ev.pos rfl (ih (i + 1) (by omega)))
theorem eqAtomS (l : List S153) (hm : mAtomS l) : Ev (fun k => laws_eqAtomS.f k l l) true :=
  Ev.eq (Ev.pos (c := (l.length : Int) = l.length) (g := fun _ => some false) rfl (eqAtomS_loop l hm.1 hm.2 l.length 0 (by omega))) (by funext k; rw [laws_eqAtomS.f]; rfl) rfl
theorem mcAtom {x : S175} (hn : nAtom x ≤ 1048576) : mAtom (cAtom x) := by
  unfold nAtom at hn
  exact ⟨trivial, mcIntS (l := x.f1) (by omega)⟩
theorem mcAtomS {l : List S175} (hn : nAtomS l ≤ 1048576) : mAtomS (cAtomS l) := by
  unfold nAtomS at hn
  refine ⟨by simp [cAtomS]; omega, fun x hx => ?_⟩
  obtain ⟨y, hy, rfl⟩ := List.mem_map.1 hx
  have := tsum_mem nAtom hy
  exact mcAtom (by omega)
end Go.Proofs.Ytjiipeidginjnaa.PLaw

namespace Go.Proofs.Ytjiipeidginjnaa.PLaw
open Go.RowKit Go.Proofs.Ytjiipeidginjnaa.P Go.Proofs.YtjiipeidginjnaaW.PrintWords Go.Proofs.YtjiipeidginjnaaW.PrintLast Go.Proofs.Ytjiipeidginjnaa.PB
set_option linter.unusedVariables false

theorem szQuery (x0 : List Int) (x1 : List S175) (a : Int) (h0 : 0 ≤ a) (h1 : a ≤ 1048576) (qx0_ : qIntS x0) (qx1_ : qAtomS x1) : Ev (fun k => laws_szQuery.f k x0 x1 a) (if a < ((nIntS x0 + nAtomS x1 : Nat) : Int) then -1 else a - ((nIntS x0 + nAtomS x1 : Nat) : Int)) := by
  unfold laws_szQuery.f
  have g0 : a ≤ 1048576 := by first | omega | exact h1
  refine Ev.bind (szIntS x0 a (by omega) (by omega) qx0_) ?_
  by_cases c0 : a < ((nIntS x0 : Nat) : Int)
  · rw [if_pos c0]
    exact Ev.pos (by omega) (Ev.const (by first | rfl | rw [if_pos (by omega)]))
  rw [if_neg c0]
  refine Ev.neg (by omega) ?_
  have e0 : a - ((nIntS x0 : Nat) : Int) = (a - ((nIntS x0 : Nat) : Int)) := by omega
  rw [e0]
  have g1 : (a - ((nIntS x0 : Nat) : Int)) ≤ 1048576 := by first | omega | exact h1
  refine Ev.bind (szAtomS x1 (a - ((nIntS x0 : Nat) : Int)) (by omega) (by omega) qx1_) ?_
  by_cases c1 : (a - ((nIntS x0 : Nat) : Int)) < ((nAtomS x1 : Nat) : Int)
  · rw [if_pos c1]
    exact Ev.pos (by omega) (Ev.const (by first | rfl | rw [if_pos (by omega)]))
  rw [if_neg c1]
  refine Ev.neg (by omega) ?_
  have e1 : (a - ((nIntS x0 : Nat) : Int)) - ((nAtomS x1 : Nat) : Int) = (a - ((nIntS x0 + nAtomS x1 : Nat) : Int)) := by omega
  rw [e1]
  exact Ev.const (by first | rfl | rw [if_neg (by omega)])
theorem toQuery (x0 : List Int) (x1 : List S175) (hn : nIntS x0 + nAtomS x1 ≤ 1048576) : Ev (fun k => laws_toQuery.f k x0 x1) (cIntS x0, cAtomS x1) := by
  unfold laws_toQuery.f
  refine Ev.bind (toIntS x0 (by omega)) ?_
  refine Ev.bind (toAtomS x1 (by omega)) ?_
  exact Ev.const rfl
theorem eqQuery (x0 : List Int) (x1 : List S153) (mx0_ : x0.length ≤ 4611686018427387000) (mx1_ : mAtomS x1) : Ev (fun k => laws_eqQuery.f k x0 x1 x0 x1) true := by
  unfold laws_eqQuery.f
  refine Ev.bind (eqIntS x0 mx0_) (Ev.pos rfl ?_)
  refine Ev.bind (eqAtomS x1 mx1_) (Ev.pos rfl ?_)
  exact Ev.const rfl
end Go.Proofs.Ytjiipeidginjnaa.PLaw

namespace Go.Proofs.Ytjiipeidginjnaa.PLaw
open Go.RowKit Go.Proofs.Ytjiipeidginjnaa.P Go.Proofs.YtjiipeidginjnaaW.PrintWords Go.Proofs.YtjiipeidginjnaaW.PrintLast Go.Proofs.Ytjiipeidginjnaa.PB
set_option linter.unusedVariables false

theorem szCertificate (x0 : List Int) (x1 : List S175) (x2 : List Int) (x3 : List Int) (a : Int) (h0 : 0 ≤ a) (h1 : a ≤ 1048576) (qx0_ : qIntS x0) (qx1_ : qAtomS x1) (qx2_ : qIntS x2) (qx3_ : qIntS x3) : Ev (fun k => laws_szCertificate.f k x0 x1 x2 x3 a) (if a < ((nIntS x0 + nAtomS x1 + nIntS x2 + nIntS x3 : Nat) : Int) then -1 else a - ((nIntS x0 + nAtomS x1 + nIntS x2 + nIntS x3 : Nat) : Int)) := by
  unfold laws_szCertificate.f
  have g0 : a ≤ 1048576 := by first | omega | exact h1
  refine Ev.bind (szQuery x0 x1 a (by omega) (by omega) qx0_ qx1_) ?_
  by_cases c0 : a < ((nIntS x0 + nAtomS x1 : Nat) : Int)
  · rw [if_pos c0]
    exact Ev.pos (by omega) (Ev.const (by first | rfl | rw [if_pos (by omega)]))
  rw [if_neg c0]
  refine Ev.neg (by omega) ?_
  have e0 : a - ((nIntS x0 + nAtomS x1 : Nat) : Int) = (a - ((nIntS x0 + nAtomS x1 : Nat) : Int)) := by omega
  rw [e0]
  have g1 : (a - ((nIntS x0 + nAtomS x1 : Nat) : Int)) ≤ 1048576 := by first | omega | exact h1
  refine Ev.bind (szIntS x2 (a - ((nIntS x0 + nAtomS x1 : Nat) : Int)) (by omega) (by omega) qx2_) ?_
  by_cases c1 : (a - ((nIntS x0 + nAtomS x1 : Nat) : Int)) < ((nIntS x2 : Nat) : Int)
  · rw [if_pos c1]
    exact Ev.pos (by omega) (Ev.const (by first | rfl | rw [if_pos (by omega)]))
  rw [if_neg c1]
  refine Ev.neg (by omega) ?_
  have e1 : (a - ((nIntS x0 + nAtomS x1 : Nat) : Int)) - ((nIntS x2 : Nat) : Int) = (a - ((nIntS x0 + nAtomS x1 + nIntS x2 : Nat) : Int)) := by omega
  rw [e1]
  have g2 : (a - ((nIntS x0 + nAtomS x1 + nIntS x2 : Nat) : Int)) ≤ 1048576 := by first | omega | exact h1
  refine Ev.bind (szIntS x3 (a - ((nIntS x0 + nAtomS x1 + nIntS x2 : Nat) : Int)) (by omega) (by omega) qx3_) ?_
  by_cases c2 : (a - ((nIntS x0 + nAtomS x1 + nIntS x2 : Nat) : Int)) < ((nIntS x3 : Nat) : Int)
  · rw [if_pos c2]
    exact Ev.pos (by omega) (Ev.const (by first | rfl | rw [if_pos (by omega)]))
  rw [if_neg c2]
  refine Ev.neg (by omega) ?_
  have e2 : (a - ((nIntS x0 + nAtomS x1 + nIntS x2 : Nat) : Int)) - ((nIntS x3 : Nat) : Int) = (a - ((nIntS x0 + nAtomS x1 + nIntS x2 + nIntS x3 : Nat) : Int)) := by omega
  rw [e2]
  exact Ev.const (by first | rfl | rw [if_neg (by omega)])
theorem toCertificate (x0 : List Int) (x1 : List S175) (x2 : List Int) (x3 : List Int) (hn : nIntS x0 + nAtomS x1 + nIntS x2 + nIntS x3 ≤ 1048576) : Ev (fun k => laws_toCertificate.f k x0 x1 x2 x3) (cIntS x0, cAtomS x1, cIntS x2, cIntS x3) := by
  unfold laws_toCertificate.f
  refine Ev.bind (toQuery x0 x1 (by omega)) ?_
  refine Ev.bind (toIntS x2 (by omega)) ?_
  refine Ev.bind (toIntS x3 (by omega)) ?_
  exact Ev.const rfl
theorem eqCertificate (x0 : List Int) (x1 : List S153) (x2 : List Int) (x3 : List Int) (mx0_ : x0.length ≤ 4611686018427387000) (mx1_ : mAtomS x1) (mx2_ : x2.length ≤ 4611686018427387000) (mx3_ : x3.length ≤ 4611686018427387000) : Ev (fun k => laws_eqCertificate.f k x0 x1 x2 x3 x0 x1 x2 x3) true := by
  unfold laws_eqCertificate.f
  refine Ev.bind (eqQuery x0 x1 mx0_ mx1_) (Ev.pos rfl ?_)
  refine Ev.bind (eqIntS x2 mx2_) (Ev.pos rfl ?_)
  refine Ev.bind (eqIntS x3 mx3_) (Ev.pos rfl ?_)
  exact Ev.const rfl
end Go.Proofs.Ytjiipeidginjnaa.PLaw

namespace Go.Proofs.Ytjiipeidginjnaa.Pure
open Go.RowKit Go.Proofs.Ytjiipeidginjnaa.P Go.Proofs.YtjiipeidginjnaaW.PrintWords Go.Proofs.YtjiipeidginjnaaW.PrintLast Go.Proofs.Ytjiipeidginjnaa.PB Go.Proofs.Ytjiipeidginjnaa.PLaw Go.Proofs.Ytjiipeidginjnaa.PFmtQ
set_option linter.unusedVariables false
theorem FnExactFormatCertificate : ∀ (l0_0 : List Int) (l0_1 : List (S175)) (l0_2 : List Int) (l0_3 : List Int), (qIntS l0_0) → (qAtomS l0_1) → (qIntS l0_2) → (qIntS l0_3) → ∃ k, laws_FnExactFormatCertificate.f k l0_0 l0_1 l0_2 l0_3 = some true := by
  intro l0_0 l0_1 l0_2 l0_3 ql0_0 ql0_1 ql0_2 ql0_3
  apply Ev.rounds
  unfold laws_FnExactFormatCertificate.f
  have z0 := szCertificate l0_0 l0_1 l0_2 l0_3 1048576 (by omega) (by omega) ql0_0 ql0_1 ql0_2 ql0_3
  by_cases c0 : (1048576 : Int) < ((nIntS l0_0 + nAtomS l0_1 + nIntS l0_2 + nIntS l0_3 : Nat) : Int)
  · rw [if_pos c0] at z0
    exact Ev.bind z0 (Ev.pos (by omega) (Ev.const rfl))
  rw [if_neg c0] at z0
  refine Ev.bind z0 (Ev.neg (by omega) ?_)
  have sl0_0 : nIntS l0_0 ≤ 1048576 := by omega
  have sl0_1 : nAtomS l0_1 ≤ 1048576 := by omega
  have sl0_2 : nIntS l0_2 ≤ 1048576 := by omega
  have sl0_3 : nIntS l0_3 ≤ 1048576 := by omega
  have t0 := toCertificate l0_0 l0_1 l0_2 l0_3 (by omega)
  have e0 := eqCertificate (cIntS l0_0) (cAtomS l0_1) (cIntS l0_2) (cIntS l0_3) (mcIntS (by omega)) (mcAtomS (by omega)) (mcIntS (by omega)) (mcIntS (by omega))
  have hh : (cIntS l0_0).length ≤ 1048576 := sl0_0
  have hl : (cAtomS l0_1).length ≤ 1048576 := by unfold cAtomS; simp; unfold nAtomS at sl0_1; omega
  have ha : ∀ a ∈ cAtomS l0_1, a.f1.length ≤ 1048576 := by
    intro a hm
    obtain ⟨y, hy, rfl⟩ := List.mem_map.1 hm
    have h1 : y.f1.length ≤ tsum nAtom l0_1 := tsum_mem nAtom hy
    show y.f1.length ≤ _
    unfold nAtomS at sl0_1; omega
  have sp := spec_cert (cIntS l0_0) (cAtomS l0_1) (cIntS l0_2) (cIntS l0_3) hh hl ha sl0_2 sl0_3
  have im := impl_cert (cIntS l0_0) (cAtomS l0_1) (cIntS l0_2) (cIntS l0_3) hh hl ha sl0_2 sl0_3
  repeat' first
    | exact Ev.const rfl
    | refine Ev.pos rfl ?_
    | refine Ev.neg (by simp) ?_
    | refine Ev.bind t0 ?_
    | refine Ev.bind sp ?_
    | refine Ev.bind im ?_
    | refine Ev.bind e0 ?_
end Go.Proofs.Ytjiipeidginjnaa.Pure

namespace Go.Proofs.Ytjiipeidginjnaa.Opens
open Go.RowKit Go.Proofs.YtjiipeidginjnaaW.PrintWords Go.Deep Go.ChangeShapes Go.WideShapes
set_option linter.unusedVariables false

/-- Whatever reads as data of type t is of kind d, and Q holds of it. -/
def Rdd {α : Type} (P : Program) (w : World) (t : TypeId) (d : Kd α) (Q : α → Prop) : Prop :=
  ∀ (H : Type) (enc : TypeId × Value → H) (fuel : Nat) (cs : List Value) (x : DataW H × List MemPlace),
    DataW.trod enc P w 0 (fun _ => true) true fuel t cs = some x → ∃ a, d.K w a cs ∧ Q a

variable {α β γ δ : Type} {P : Program} {w : World} {t e : TypeId}

theorem op_int {k : IntKind} (ht : P.underlying t = some (.int k)) : Rdd P w t (Kd.int k) (fun n => (Lit.int k n).wf = true) := by
  intro H enc fuel cs x h
  obtain ⟨n, rfl, _, hw⟩ := DataW.trod_int ht h
  exact ⟨n, rfl, hw⟩
theorem op_mono {d : Kd α} {Q Q' : α → Prop} (h : Rdd P w t d Q) (hq : ∀ a, Q a → Q' a) : Rdd P w t d Q' := by
  intro H enc fuel cs x hx
  obtain ⟨a, hk, hQ⟩ := h H enc fuel cs x hx
  exact ⟨a, hk, hq a hQ⟩
theorem op_slice {d : Kd α} {Q : α → Prop} (ht : P.underlying t = some (.slice e)) (hc : P.cellsOf e = d.sz) (hd : Rdd P w e d Q) :
    Rdd P w t (Kd.slice e d) (fun xs => xs.length ≤ 9223372036854775807 ∧ ∀ x ∈ xs, Q x) := by
  classical
  intro H enc fuel cs x h
  rcases open_slice ht h with ⟨rfl, _⟩ | ⟨a, len, cap, m, n, D, Pl, rfl, _, hl, hm, hmm, _, hx⟩
  · exact ⟨[], ⟨none, 0, rfl, Nat.le_refl _, Kd.C_nil d w⟩, by simp⟩
  · have hm' : m = cap := by simpa using hmm
    have hX : ∀ i, i < len → ∃ x : α, ∃ cs', w.cells? 0 (a.add (i * d.sz)) d.sz = some cs' ∧ d.K w x cs' ∧ Q x := by
      intro i hi
      obtain ⟨cs', h1, h2⟩ := hx i (by omega)
      obtain ⟨y, hk, hq⟩ := hd H enc n cs' _ h2
      rw [hc] at h1
      exact ⟨y, cs', h1, hk, hq⟩
    rcases Nat.eq_zero_or_pos len with h0 | h0
    · subst h0
      exact ⟨[], ⟨some a, cap, rfl, Nat.zero_le _, ⟨rfl, by simp, fun h => absurd h (Nat.lt_irrefl 0)⟩⟩, by simp⟩
    · obtain ⟨x0, _⟩ := hX 0 h0
      haveI : Inhabited α := ⟨x0⟩
      obtain ⟨X, hX'⟩ := choose_lt hX
      have hlen : ((List.range len).map X).length = len := by simp
      have hmx : ((List.range len).map X).length ≤ 9223372036854775807 := by rw [hlen]; unfold maxLen at hm; omega
      refine ⟨(List.range len).map X, ⟨some a, cap, by rw [hlen], by rw [hlen]; exact hl, ⟨rfl, hmx, fun _ => ⟨a, rfl, ?_⟩⟩⟩, hmx, ?_⟩
      · intro j p hj
        have hj' : j < len := by
          have := (List.getElem?_eq_some_iff.1 hj).1
          rwa [hlen] at this
        have hp : p = X j := by
          rw [List.getElem?_map, List.getElem?_range hj'] at hj
          simpa using hj.symm
        subst hp
        obtain ⟨cs', h1, h2, _⟩ := hX' j hj'
        obtain ⟨_, hl', hcell⟩ := World.cells?_some h1
        refine ⟨cs', hl', h2, fun i u hu => ?_⟩
        have hi : i < d.sz := by
          have := (List.getElem?_eq_some_iff.1 hu).1
          omega
        have := hcell i hi
        rw [hu] at this
        rw [← this, Addr.add_add]
      · intro x hx
        obtain ⟨i, hi, rfl⟩ := List.mem_map.1 hx
        exact (hX' i (List.mem_range.1 hi)).choose_spec.2.2
theorem op_iso {d : Kd α} {Q : α → Prop} (f : β → α) (g : α → β) (hfg : ∀ a, f (g a) = a) (h : Rdd P w t d Q) : Rdd P w t (Kd.iso d f) (fun b => Q (f b)) := by
  intro H enc fuel cs x hx
  obtain ⟨a, hk, hq⟩ := h H enc fuel cs x hx
  refine ⟨g a, ?_, ?_⟩
  · show d.K w (f (g a)) cs
    rw [hfg]; exact hk
  · show Q (f (g a))
    rw [hfg]; exact hq
theorem op_struct2 {f0 f1 : Field} {d0 : Kd α} {d1 : Kd β} {Q0 : α → Prop} {Q1 : β → Prop} (ht : P.underlying t = some (.struct #[f0, f1])) (h0 : f0.offset = 0) (h1 : f1.offset = d0.sz)
    (z : P.cellsOf t = d0.sz + d1.sz) (z0 : P.cellsOf f0.type = d0.sz) (z1 : P.cellsOf f1.type = d1.sz)
    (o0 : Rdd P w f0.type d0 Q0) (o1 : Rdd P w f1.type d1 Q1) : Rdd P w t (Kd.pair d0 d1) (fun a => Q0 a.1 ∧ Q1 a.2) := by
  intro H enc fuel cs x hx
  obtain ⟨y0, y1, n, rfl, hl, g0, g1⟩ := trod_struct2 ht hx
  obtain ⟨a, hk, hq⟩ := o0 H enc n _ y0 g0
  obtain ⟨b, hk1, hq1⟩ := o1 H enc n _ y1 g1
  rw [h0, List.drop_zero, z0] at hk
  rw [h1, z1, List.take_of_length_le (by simp; omega)] at hk1
  exact ⟨(a, b), ⟨_, _, (List.take_append_drop d0.sz cs).symm, hk, hk1⟩, hq, hq1⟩
theorem op_struct3 {f0 f1 f2 : Field} {d0 : Kd α} {d1 : Kd β} {d2 : Kd γ} {Q0 : α → Prop} {Q1 : β → Prop} {Q2 : γ → Prop} (ht : P.underlying t = some (.struct #[f0, f1, f2])) (h0 : f0.offset = 0) (h1 : f1.offset = d0.sz)
    (h2 : f2.offset = d0.sz + d1.sz) (z : P.cellsOf t = d0.sz + (d1.sz + d2.sz)) (z0 : P.cellsOf f0.type = d0.sz) (z1 : P.cellsOf f1.type = d1.sz) (z2 : P.cellsOf f2.type = d2.sz)
    (o0 : Rdd P w f0.type d0 Q0) (o1 : Rdd P w f1.type d1 Q1) (o2 : Rdd P w f2.type d2 Q2) :
    Rdd P w t (Kd.pair d0 (Kd.pair d1 d2)) (fun a => Q0 a.1 ∧ Q1 a.2.1 ∧ Q2 a.2.2) := by
  intro H enc fuel cs x hx
  obtain ⟨y0, y1, y2, n, rfl, hl, g0, g1, g2⟩ := trod_struct3 ht hx
  obtain ⟨a, hk, hq⟩ := o0 H enc n _ y0 g0
  obtain ⟨b, hk1, hq1⟩ := o1 H enc n _ y1 g1
  obtain ⟨c, hk2, hq2⟩ := o2 H enc n _ y2 g2
  rw [h0, List.drop_zero, z0] at hk
  rw [h1, z1] at hk1
  rw [h2, z2, List.take_of_length_le (by simp; omega), ← List.drop_drop] at hk2
  exact ⟨(a, (b, c)), ⟨_, _, (List.take_append_drop d0.sz cs).symm, hk, ⟨_, _, (List.take_append_drop d1.sz (cs.drop d0.sz)).symm, hk1, hk2⟩⟩, hq, hq1, hq2⟩
theorem op_of {d : Kd α} {Q : α → Prop} {H : Type} {enc : TypeId × Value → H} {v : Value} {dd : DataW H} {ps : List MemPlace} (h : Rdd P w t d Q) (hx : DataW.Trod enc P w 0 (fun _ => true) true t v dd ps) :
    ∃ a, d.K w a v.cells.toList ∧ Q a := by
  obtain ⟨fuel, hf⟩ := hx
  exact h H enc fuel _ _ hf
end Go.Proofs.Ytjiipeidginjnaa.Opens

