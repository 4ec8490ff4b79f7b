/- Several texts in one: what the claim needs of them. Conditions: each declaration's own. -/
import Derived.Test.YtjiipeidginjnaaZPchWWords
import Derived.Test.YtjiipeidginjnaaZPchM10
import Derived.Test.YtjiipeidginjnaaZPchPx25
import Derived.Test.YtjiipeidginjnaaZPchPx29
import Derived.Lib.Strings
import Derived.Test.YtjiipeidginjnaaZPchM11
import Derived.Test.YtjiipeidginjnaaZPchPx30
import Derived.Test.YtjiipeidginjnaaZPchPx26
import Derived.Test.YtjiipeidginjnaaZPchPx27
import Derived.Test.YtjiipeidginjnaaZPchPx28
import Derived.Test.YtjiipeidginjnaaZPchM18
import Derived.Test.YtjiipeidginjnaaZPchPx32
import Derived.Test.YtjiipeidginjnaaZPchPx33
import Derived.Deep.Slices
import Derived.Deep.Strs
import Derived.Lib.SmallJoins
import Derived.WideShapes
import Derived.ChangeSame
import Derived.DataElems
namespace Go.Proofs.Ytjiipeidginjnaa.PB
open Go.RowKit Go.Proofs.YtjiipeidginjnaaW.PrintWords
set_option linter.unusedVariables false

theorem Ev.pos {α : Type} {c : Prop} [Decidable c] {f g : Nat → Option α} {r : α} (h : c) (k : Ev f r) : Ev (fun n => if c then f n else g n) r :=
  Ev.congr (fun n => if_pos h) k
theorem Ev.neg {α : Type} {c : Prop} [Decidable c] {f g : Nat → Option α} {r : α} (h : ¬ c) (k : Ev g r) : Ev (fun n => if c then f n else g n) r :=
  Ev.congr (fun n => if_neg h) k
theorem Ev.const {α : Type} {x : Option α} {r : α} (h : x = some r) : Ev (fun _ => x) r := ⟨0, fun _ _ => h⟩
/-- A callee without rounds. -/
theorem Ev.bindc {α β : Type} {g : Option α} {f : Nat → α → Option β} {a : α} {r : β} (h : g = some a) (k : Ev (fun n => f n a) r) : Ev (fun n => g.bind (f n)) r := by
  subst h; exact k
theorem Ev.last {α β : Type} {g : Nat → Option α} {a : α} {f : α → β} (h : Ev g a) : Ev (fun n => (g n).bind fun x => some (f x)) (f a) := Ev.bind h (Ev.now _)
theorem Ev.eq {α : Type} {g f : Nat → Option α} {r q : α} (h : Ev g r) (hg : g = f) (hr : r = q) : Ev f q := by subst hg; subst hr; exact h

theorem inc {i : Nat} (h : i < 4611686018427387904) : wrap64 ((i : Int) + 1) = ((i + 1 : Nat) : Int) := by
  unfold wrap64; omega
theorem w64 {n : Int} (h : -9223372036854775808 ≤ n) (h' : n ≤ 9223372036854775807) : wrap64 n = n := by
  unfold wrap64; omega
theorem rd_nat (xs : List Int) (i : Nat) (h : i < xs.length) : rd xs (i : Int) = xs[i] := by
  unfold rd; simp [List.getD_eq_getElem?_getD, h]
theorem rdOf_nat {α : Type} (d : α) (xs : List α) (i : Nat) (h : i < xs.length) : rdOf d xs (i : Int) = xs[i] := by
  unfold rdOf; simp [List.getD_eq_getElem?_getD, h]
theorem drop_cons {α : Type} {xs : List α} {i : Nat} (h : i < xs.length) : xs.drop i = xs[i] :: xs.drop (i + 1) := by
  exact List.drop_eq_getElem_cons h
theorem take_snoc {α : Type} {xs : List α} {i : Nat} (h : i < xs.length) : xs.take (i + 1) = xs.take i ++ [xs[i]] := by
  exact List.take_succ_eq_append_getElem h
theorem fill_set' {α : Type} (ys : List α) (i d : Nat) (z v : α) (h : ys.length = i) : (ys ++ List.replicate (d + 1) z).set i v = ys ++ [v] ++ List.replicate d z := by
  rw [List.set_append, if_neg (by omega), h, Nat.sub_self]
  simp [List.replicate_succ]
end Go.Proofs.Ytjiipeidginjnaa.PB

namespace Go.Proofs.Ytjiipeidginjnaa.PNum
open Go.RowKit Go.Proofs.Ytjiipeidginjnaa.P Go.Proofs.YtjiipeidginjnaaW.PrintWords Go.Proofs.YtjiipeidginjnaaW.PrintLast Go.Proofs.Ytjiipeidginjnaa.PB
set_option linter.unusedVariables false

theorem sn_append (a b : List Int) : strOfNums (a ++ b) = strOfNums a ++ strOfNums b := by
  apply ByteArray.ext; simp [strOfNums]
theorem sn_nil : strOfNums [] = (⟨#[]⟩ : ByteArray) := rfl
theorem ba_nil (s : ByteArray) : (⟨#[]⟩ : ByteArray) ++ s = s := by
  apply ByteArray.ext; simp
theorem ba_nil' (s : ByteArray) : s ++ (⟨#[]⟩ : ByteArray) = s := by
  apply ByteArray.ext; simp
theorem ba_assoc (a b c : ByteArray) : a ++ b ++ c = a ++ (b ++ c) := by
  apply ByteArray.ext; simp [Array.append_assoc]

/-- A digit's byte. -/
def dg (x : Int) : Int := if Int.tmod x 10 < 0 then (wrap64 (48 + wrap64 (-(Int.tmod x 10)))) % 256 else (wrap64 (48 + Int.tmod x 10)) % 256
/-- The digits, the last one first. -/
def revd : Nat → Int → List Int
  | 0, _ => []
  | f + 1, x => if x = 0 then [] else dg x :: revd f (wrap64 (Int.tdiv x 10))

theorem div_small {f : Nat} {x : Int} (h : x.natAbs < 10 ^ (f + 1)) : (Int.tdiv x 10).natAbs < 10 ^ f := by
  rw [Int.natAbs_tdiv]
  show x.natAbs / 10 < 10 ^ f
  rw [Nat.div_lt_iff_lt_mul (by omega)]
  rw [Nat.pow_succ] at h; exact h
theorem in_range {x : Int} (h : (Lit.int .i64 x).wf = true) : -9223372036854775808 ≤ x ∧ x ≤ 9223372036854775807 := by
  simp only [Lit.wf, Bool.and_eq_true, decide_eq_true_eq] at h
  exact ⟨by have := h.1; simpa [IntKind.min, IntKind.bits, IntKind.signed] using this, by have := h.2; simpa [IntKind.max, IntKind.bits, IntKind.signed] using this⟩
theorem tdiv_wrap {x : Int} (h : x.natAbs ≤ 9223372036854775808) : wrap64 (Int.tdiv x 10) = Int.tdiv x 10 := by
  have : (Int.tdiv x 10).natAbs ≤ 922337203685477580 := by
    rw [Int.natAbs_tdiv]; show x.natAbs / 10 ≤ _; omega
  exact w64 (by omega) (by omega)
theorem tdiv_abs {x : Int} (h : x.natAbs ≤ 9223372036854775808) : (Int.tdiv x 10).natAbs ≤ 9223372036854775808 := by
  rw [Int.natAbs_tdiv]; show x.natAbs / 10 ≤ _; omega

theorem spec_loop (neg : Bool) : ∀ (f : Nat) (x : Int) (s : ByteArray), f ≤ 40 → x.natAbs < 10 ^ f → x.natAbs ≤ 9223372036854775808 → s.size + f ≤ 100 →
    Ev (fun k => spec_FormatInt.l0 k x s neg) ((if neg = true then (⟨#[45]⟩ : ByteArray) else ⟨#[]⟩) ++ (strOfNums (revd f x).reverse ++ s)) := by
  intro f
  induction f with
  | zero =>
    intro x s _ h _ hs
    obtain rfl : x = 0 := by simp at h; omega
    refine Ev.step (fun k => by rw [spec_FormatInt.l0]) ?_
    refine Ev.pos rfl ?_
    cases neg with
    | true =>
      refine Ev.pos rfl (Ev.pos (by omega) (Ev.const ?_))
      simp [revd, sn_nil, ba_nil]
    | false =>
      refine Ev.neg (by simp) (Ev.const ?_)
      simp [revd, sn_nil, ba_nil]
  | succ f ih =>
    intro x s hf h ha hs
    by_cases hx : x = 0
    · subst hx
      refine Ev.step (fun k => by rw [spec_FormatInt.l0]) ?_
      refine Ev.pos rfl ?_
      cases neg with
      | true =>
        refine Ev.pos rfl (Ev.pos (by omega) (Ev.const ?_))
        simp [revd, sn_nil, ba_nil]
      | false =>
        refine Ev.neg (by simp) (Ev.const ?_)
        simp [revd, sn_nil, ba_nil]
    · refine Ev.step (fun k => by rw [spec_FormatInt.l0]) ?_
      refine Ev.neg hx ?_
      have hsz : ∀ d : Int, (strOfNums [d]).size = 1 := fun d => by rw [strOfNums_size]; rfl
      have hb : ∀ d : Int, (strOfNums [d] ++ s).size + f ≤ 100 := fun d => by rw [ByteArray.size_append, hsz]; omega
      have key : ∀ d : Int, d = dg x → Ev (fun k => spec_FormatInt.l0 k (wrap64 (Int.tdiv x 10)) (strOfNums [d] ++ s) neg) ((if neg = true then (⟨#[45]⟩ : ByteArray) else ⟨#[]⟩) ++ (strOfNums (revd (f + 1) x).reverse ++ s)) := by
        intro d hd
        rw [tdiv_wrap ha]
        refine Ev.eq (ih (Int.tdiv x 10) (strOfNums [d] ++ s) (by omega) (div_small h) (tdiv_abs ha) (hb d)) rfl ?_
        have e : revd (f + 1) x = dg x :: revd f (Int.tdiv x 10) := by rw [revd, if_neg hx, tdiv_wrap ha]
        rw [e, List.reverse_cons, sn_append, hd, ba_assoc (strOfNums _) (strOfNums [dg x]) s]
      by_cases hm : Int.tmod x 10 < 0
      · refine Ev.pos hm ?_
        refine Ev.bindc (g := some _) rfl (Ev.pos (by rw [hsz]; omega) (key _ (by rw [dg, if_pos hm])))
      · refine Ev.neg hm ?_
        refine Ev.bindc (g := some _) rfl (Ev.pos (by rw [hsz]; omega) (key _ (by rw [dg, if_neg hm])))

/-- The text of a number. -/
def fmt (x : Int) : ByteArray := if x = 0 then ⟨#[48]⟩ else (if x < 0 then (⟨#[45]⟩ : ByteArray) else ⟨#[]⟩) ++ strOfNums (revd 20 x).reverse
theorem revd_len : ∀ f x, (revd f x).length ≤ f := by
  intro f
  induction f with
  | zero => intro x; simp [revd]
  | succ f ih =>
    intro x; rw [revd]; split
    · simp
    · have := ih (wrap64 (Int.tdiv x 10)); simp; omega
theorem fmt_size (x : Int) : (fmt x).size ≤ 21 := by
  unfold fmt; split
  · show (1 : Nat) ≤ 21; omega
  · have := revd_len 20 x
    rw [ByteArray.size_append, strOfNums_size, List.length_reverse]
    split
    · show 1 + _ ≤ 21; omega
    · show 0 + _ ≤ 21; omega
theorem abs_small {x : Int} (h : (Lit.int .i64 x).wf = true) : x.natAbs ≤ 9223372036854775808 := by
  have := in_range h; omega
theorem spec_ev {x : Int} (h : (Lit.int .i64 x).wf = true) : Ev (fun k => spec_FormatInt.f k x) (fmt x) := by
  have ha := abs_small h
  by_cases hx : x = 0
  · subst hx
    exact Ev.const rfl
  · refine Ev.eq (Ev.neg (c := x = 0) (f := fun _ => some (⟨#[48]⟩ : ByteArray)) hx (spec_loop (decide (x < 0)) 20 x ⟨#[]⟩ (by omega) (by show _ < (100000000000000000000 : Nat); omega) ha (by show 0 + 20 ≤ 100; omega))) (by funext k; rw [spec_FormatInt.f]) ?_
    rw [fmt, if_neg hx, ba_nil']
    by_cases hn : x < 0
    · simp [hn]
    · simp [hn]

theorem turn_loop : ∀ (n : Nat) (a m b : List Int), m.length = n → a.length = b.length → a.length + n + b.length ≤ 1000 →
    Ev (fun k => impl_FormatInt.l1 k (a ++ m ++ b) (a.length : Int) (wrap64 ((a.length + m.length : Nat) - 1 : Int))) (strOfNums (a ++ m.reverse ++ b)) := by
  intro n
  induction n using Nat.strongRecOn with
  | ind n ih =>
    intro a m b hm hab hl
    rw [w64 (by omega) (by omega)]
    by_cases h2 : n < 2
    · refine Ev.step (fun k => by rw [impl_FormatInt.l1]) ?_
      refine Ev.neg (by omega) (Ev.const ?_)
      have : m.reverse = m := by
        match m, hm with
        | [], _ => rfl
        | [x], _ => rfl
        | x :: y :: r, hm => simp at hm; omega
      rw [this]
    · obtain ⟨x, m1, y, rfl⟩ : ∃ x m1 y, m = x :: (m1 ++ [y]) := by
        match m, hm with
        | [], hm => simp at hm; omega
        | x :: r, hm =>
          have hr : r ≠ [] := by rintro rfl; simp at hm; omega
          exact ⟨x, r.dropLast, r.getLast hr, by rw [List.dropLast_concat_getLast hr]⟩
      simp only [List.length_cons, List.length_append, List.length_nil] at hm
      refine Ev.step (fun k => by rw [impl_FormatInt.l1]) ?_
      simp only [List.length_cons, List.length_append, List.length_nil] at hl ⊢
      refine Ev.pos (by omega) (Ev.pos (by omega) (Ev.pos (by omega) (Ev.pos (by omega) (Ev.pos (by omega) ?_))))
      have i1 : ((a.length : Int)).toNat = a.length := by omega
      have i2 : (((a.length + (m1.length + (0 + 1) + 1) : Nat) : Int) - 1).toNat = a.length + m1.length + 1 := by omega
      have r1 : rd (a ++ x :: (m1 ++ [y]) ++ b) (a.length : Int) = x := by
        unfold rd; rw [i1]; simp [List.getD_eq_getElem?_getD]
      have r2 : rd (a ++ x :: (m1 ++ [y]) ++ b) (((a.length + (m1.length + (0 + 1) + 1) : Nat) : Int) - 1) = y := by
        unfold rd; rw [i2, List.getD_eq_getElem?_getD]
        rw [List.getElem?_append_left (by simp; omega), List.getElem?_append_right (by omega)]
        have : a.length + m1.length + 1 - a.length = m1.length + 1 := by omega
        rw [this]; simp
      have s1 : ((a ++ x :: (m1 ++ [y]) ++ b).set (a.length : Int).toNat y).set (((a.length + (m1.length + (0 + 1) + 1) : Nat) : Int) - 1).toNat x = (a ++ [y]) ++ m1 ++ ([x] ++ b) := by
        rw [i1, i2]
        have e1 : (a ++ x :: (m1 ++ [y]) ++ b).set a.length y = (a ++ [y] ++ m1) ++ (y :: b) := by
          rw [List.append_assoc, List.set_append, if_neg (by omega), Nat.sub_self]; simp
        rw [e1, List.set_append, if_neg (by simp; omega)]
        have : a.length + m1.length + 1 - (a ++ [y] ++ m1).length = 0 := by simp; omega
        rw [this]; simp
      rw [r1, r2, s1, w64 (by omega) (by omega)]
      refine Ev.eq (ih m1.length (by omega) (a ++ [y]) m1 ([x] ++ b) rfl (by simp; omega) (by simp; omega)) ?_ ?_
      · funext k
        congr 1
        · simp
        · congr 1; simp; omega
      · simp
theorem turn_ev (l : List Int) (h : l.length ≤ 500) : Ev (fun k => impl_FormatInt.j1 k l) (strOfNums l.reverse) := by
  refine Ev.step (fun k => by rw [impl_FormatInt.j1]) ?_
  have := turn_loop l.length [] l [] rfl rfl (by simp; omega)
  simpa using this
theorem impl_loop (x0 : Int) : ∀ (f : Nat) (x : Int) (l : List Int), f ≤ 40 → x.natAbs < 10 ^ f → x.natAbs ≤ 9223372036854775808 → l.length + f ≤ 100 →
    Ev (fun k => impl_FormatInt.l0 k x0 l x) (strOfNums (l ++ revd f x ++ (if x0 < 0 then [45] else [])).reverse) := by
  intro f
  induction f with
  | zero =>
    intro x l _ h _ hs
    obtain rfl : x = 0 := by simp at h; omega
    refine Ev.step (fun k => by rw [impl_FormatInt.l0]) ?_
    refine Ev.pos rfl ?_
    by_cases hn : x0 < 0
    · refine Ev.pos hn (Ev.pos (by omega) ?_)
      rw [if_pos hn]; exact Ev.eq (turn_ev (l ++ [45]) (by simp; omega)) rfl (by simp [revd])
    · refine Ev.neg hn ?_
      rw [if_neg hn]; simpa [revd] using turn_ev l (by omega)
  | succ f ih =>
    intro x l hf h ha hs
    by_cases hx : x = 0
    · subst hx
      refine Ev.step (fun k => by rw [impl_FormatInt.l0]) ?_
      refine Ev.pos rfl ?_
      by_cases hn : x0 < 0
      · refine Ev.pos hn (Ev.pos (by omega) ?_)
        rw [if_pos hn]; exact Ev.eq (turn_ev (l ++ [45]) (by simp; omega)) rfl (by simp [revd])
      · refine Ev.neg hn ?_
        rw [if_neg hn]; simpa [revd] using turn_ev l (by omega)
    · refine Ev.step (fun k => by rw [impl_FormatInt.l0]) ?_
      refine Ev.neg hx ?_
      have key : ∀ d : Int, d = dg x → Ev (fun k => impl_FormatInt.l0 k x0 (l ++ [d]) (wrap64 (Int.tdiv x 10))) (strOfNums (l ++ revd (f + 1) x ++ (if x0 < 0 then [45] else [])).reverse) := by
        intro d hd
        rw [tdiv_wrap ha]
        refine Ev.eq (ih (Int.tdiv x 10) (l ++ [d]) (by omega) (div_small h) (tdiv_abs ha) (by simp; omega)) rfl ?_
        have e : revd (f + 1) x = dg x :: revd f (Int.tdiv x 10) := by rw [revd, if_neg hx, tdiv_wrap ha]
        rw [e, hd]; simp
      by_cases hm : Int.tmod x 10 < 0
      · exact Ev.pos hm (Ev.pos (by omega) (key _ (by rw [dg, if_pos hm])))
      · exact Ev.neg hm (Ev.pos (by omega) (key _ (by rw [dg, if_neg hm])))
theorem impl_ev {x : Int} (h : (Lit.int .i64 x).wf = true) : Ev (fun k => impl_FormatInt.f k x) (fmt x) := by
  have ha := abs_small h
  by_cases hx : x = 0
  · subst hx
    exact Ev.const rfl
  · refine Ev.eq (Ev.neg (c := x = 0) (f := fun _ => some (⟨#[48]⟩ : ByteArray)) hx (impl_loop x 20 x [] (by omega) (by show _ < (100000000000000000000 : Nat); omega) ha (by simp))) (by funext k; rw [impl_FormatInt.f]) ?_
    rw [fmt, if_neg hx]
    by_cases hn : x < 0
    · simp only [hn, if_true, List.nil_append, List.reverse_append, List.reverse_cons, List.reverse_nil]
      rw [sn_append]; rfl
    · simp only [hn, if_false, List.nil_append, List.append_nil]
      rw [ba_nil]
end Go.Proofs.Ytjiipeidginjnaa.PNum

namespace Go.Proofs.Ytjiipeidginjnaa.PIn
open Go.RowKit Go.Proofs.Ytjiipeidginjnaa.P Go.Proofs.YtjiipeidginjnaaW.PrintWords Go.Proofs.YtjiipeidginjnaaW.PrintLast Go.Proofs.Ytjiipeidginjnaa.PB
set_option linter.unusedVariables false

def inr (a lo hi : Int) : Bool := decide (lo ≤ a ∧ a ≤ hi)
theorem spec_in (a lo hi : Int) : spec_l1In.f a lo hi = some (inr a lo hi) := by
  unfold spec_l1In.f inr
  by_cases h : a ≥ lo
  · rw [if_pos h]; by_cases h2 : a ≤ hi <;> simp [h2] <;> omega
  · rw [if_neg h]; simp; omega
theorem impl_in (a lo hi : Int) : impl_within.f a lo hi = some (inr a lo hi) := by
  unfold impl_within.f inr
  by_cases h : a ≥ lo
  · rw [if_pos h]; by_cases h2 : a ≤ hi <;> simp [h2] <;> omega
  · rw [if_neg h]; simp; omega
end Go.Proofs.Ytjiipeidginjnaa.PIn

namespace Go.Proofs.Ytjiipeidginjnaa.PPInt
open Go.RowKit Go.Proofs.Ytjiipeidginjnaa.P Go.Proofs.YtjiipeidginjnaaW.PrintWords Go.Proofs.YtjiipeidginjnaaW.PrintLast Go.Proofs.Ytjiipeidginjnaa.PB Go.Proofs.Ytjiipeidginjnaa.PNum Go.Proofs.Ytjiipeidginjnaa.PIn
set_option linter.unusedVariables false

theorem wfOf {x : Int} (h1 : -9223372036854775808 ≤ x) (h2 : x ≤ 9223372036854775807) : (Lit.int .i64 x).wf = true := by
  simp only [Lit.wf, Bool.and_eq_true, decide_eq_true_eq]
  exact ⟨by simpa [IntKind.min, IntKind.bits, IntKind.signed] using h1, by simpa [IntKind.max, IntKind.bits, IntKind.signed] using h2⟩
/-- A text's bytes as numbers. -/
def bl (s : ByteArray) : List Int := s.data.toList.map fun b => ((b.toNat : Nat) : Int)
theorem bl_len (s : ByteArray) : (bl s).length = s.size := by unfold bl; rw [List.length_map, Array.length_toList]; rfl
theorem bl_app (a b : ByteArray) : bl (a ++ b) = bl a ++ bl b := by unfold bl; simp [ByteArray.data_append]
theorem bl_inj {a b : ByteArray} (h : bl a = bl b) : a = b := by
  apply ByteArray.ext
  apply Array.toList_inj.1
  unfold bl at h
  refine (List.map_inj_right (fun x y hxy => ?_)).1 h
  have : x.toNat = y.toNat := Int.ofNat.inj hxy
  exact UInt8.toNat_inj.1 this
theorem list_eq {a b : ByteArray} : a.toList = b.toList ↔ a = b := by
  rw [ByteArray.toList_eq, ByteArray.toList_eq]
  exact ⟨fun h => ByteArray.ext (Array.toList_inj.1 h), fun h => by rw [h]⟩
theorem bt_bl (s : ByteArray) (i : Nat) (h : i < s.size) : bt s (i : Int) = (bl s)[i]'(by rw [bl_len]; exact h) := by
  unfold bt bl
  have h' : (i : Int).toNat < s.size := by simpa using h
  rw [dif_pos h']
  simp [ByteArray.getElem_eq_getElem_data]
theorem bl_nums (xs : List Int) (h : ∀ x ∈ xs, 0 ≤ x ∧ x ≤ 255) : bl (strOfNums xs) = xs := by
  unfold bl
  rw [strOfNums_data, List.map_map]
  refine (List.map_congr_left fun x hx => ?_).trans (List.map_id xs)
  have := h x hx
  show (((UInt8.ofNat x.toNat).toNat : Nat) : Int) = x
  rw [UInt8.toNat_ofNat']; omega
theorem pow9 {n : Nat} (h : n ≤ 9) : (10 : Int) ^ n ≤ 1000000000 := by
  have h1 := Nat.pow_le_pow_right (show 0 < 10 by omega) h
  have h2 : (10 : Nat) ^ 9 = 1000000000 := by decide
  have h3 : (10 : Int) ^ n = ((10 ^ n : Nat) : Int) := by rw [Int.natCast_pow]; rfl
  rw [h3]; omega
def dig (c : Int) : Bool := decide (48 ≤ c ∧ c ≤ 57)
def fold10 : Int → List Int → Int
  | n, [] => n
  | n, c :: r => fold10 (10 * n + (c - 48)) r
theorem fold10_snoc : ∀ (l : List Int) (n c : Int), fold10 n (l ++ [c]) = 10 * fold10 n l + (c - 48) := by
  intro l
  induction l with
  | nil => intro n c; rfl
  | cons x r ih => intro n c; exact ih _ c
theorem fold10_bound : ∀ (l : List Int) (n : Int), 0 ≤ n → (l.all dig) = true → 0 ≤ fold10 n l ∧ fold10 n l < (n + 1) * 10 ^ l.length := by
  intro l
  induction l with
  | nil => intro n h _; simp [fold10]; omega
  | cons x r ih =>
    intro n h hd
    simp only [List.all_cons, Bool.and_eq_true, dig, decide_eq_true_eq] at hd
    have := ih (10 * n + (x - 48)) (by omega) (by simpa [dig] using hd.2)
    rw [fold10]
    refine ⟨this.1, Int.lt_of_lt_of_le this.2 ?_⟩
    rw [List.length_cons, Int.pow_succ]
    have hp : (0 : Int) < 10 ^ r.length := Int.pow_pos (by omega)
    calc (10 * n + (x - 48) + 1) * 10 ^ r.length ≤ ((n + 1) * 10) * 10 ^ r.length := Int.mul_le_mul_of_nonneg_right (by omega) (by omega)
      _ = (n + 1) * (10 ^ r.length * 10) := by rw [Int.mul_assoc, Int.mul_comm 10]
theorem dg_val {x : Int} : dig (dg x) = true ∧ dg x - 48 = (x.natAbs % 10 : Nat) := by
  unfold dg dig
  have h : (Int.tmod x 10).natAbs = x.natAbs % 10 := by rw [Int.natAbs_tmod]; rfl
  rw [decide_eq_true_eq]
  split <;> (unfold wrap64; omega)
theorem revd_ok : ∀ (k f : Nat) (x : Int), k ≤ f → x.natAbs < 10 ^ k → x.natAbs ≤ 9223372036854775808 → (revd f x).length ≤ k ∧ ((revd f x).reverse.all dig) = true ∧ fold10 0 (revd f x).reverse = x.natAbs := by
  intro k
  induction k with
  | zero =>
    intro f x hk hx hb
    obtain rfl : x = 0 := by simp at hx; omega
    cases f <;> simp [revd, fold10]
  | succ k ih =>
    intro f x hk hx hb
    obtain ⟨g, rfl⟩ : ∃ g, f = g + 1 := ⟨f - 1, by omega⟩
    rw [revd]
    by_cases h0 : x = 0
    · subst h0; simp [fold10]
    · rw [if_neg h0, tdiv_wrap hb]
      have h1 := ih g (Int.tdiv x 10) (by omega) (div_small hx) (tdiv_abs hb)
      have hd := dg_val (x := x)
      refine ⟨by simp only [List.length_cons]; omega, ?_, ?_⟩
      · rw [List.reverse_cons, List.all_append, h1.2.1]; simp [hd.1]
      · rw [List.reverse_cons, fold10_snoc, h1.2.2, hd.2, Int.natAbs_tdiv]
        show 10 * ((x.natAbs / 10 : Nat) : Int) + ((x.natAbs % 10 : Nat) : Int) = (x.natAbs : Int)
        omega
theorem revd_ne : ∀ (f : Nat) (x : Int), x ≠ 0 → 1 ≤ (revd (f + 1) x).length := by
  intro f x h; rw [revd, if_neg h]; simp
/-- What a number's text is, for numbers of at most nine digits. -/
theorem fmt_bl (x : Int) (hx : x.natAbs < 1000000000) : ∃ ds, bl (fmt x) = (if x < 0 then [45] else []) ++ ds ∧ (ds.all dig) = true ∧ 1 ≤ ds.length ∧ ds.length ≤ 9 ∧ fold10 0 ds = x.natAbs := by
  by_cases h0 : x = 0
  · subst h0
    exact ⟨[48], rfl, rfl, by decide, by decide, rfl⟩
  · have h := revd_ok 9 20 x (by omega) (by simpa using hx) (by omega)
    refine ⟨(revd 20 x).reverse, ?_, h.2.1, by rw [List.length_reverse]; exact revd_ne 19 x h0, by rw [List.length_reverse]; exact h.1, h.2.2⟩
    rw [fmt, if_neg h0, bl_app, bl_nums]
    · split <;> rfl
    · intro c hc
      have := List.all_eq_true.1 h.2.1 c hc
      simp only [dig, decide_eq_true_eq] at this; omega
def sgn (L : List Int) : Nat := if L.head? = some 45 then 1 else 0
/-- The number that a text tells: at most nine digits, written as FormatInt writes it. -/
def numOf (s : ByteArray) : Int := if sgn (bl s) = 1 then -(fold10 0 ((bl s).drop 1)) else fold10 0 (bl s)
def isNum (s : ByteArray) : Bool := decide (1 ≤ ((bl s).drop (sgn (bl s))).length) && (decide (((bl s).drop (sgn (bl s))).length ≤ 9) && (((bl s).drop (sgn (bl s))).all dig && decide (fmt (numOf s) = s)))
def pI (s : ByteArray) : Int × Bool := if isNum s = true then (numOf s, true) else (0, false)
theorem isNum_fmt (x : Int) (hx : x.natAbs < 1000000000) : isNum (fmt x) = true ∧ numOf (fmt x) = x := by
  obtain ⟨ds, h1, h2, h3, h4, h5⟩ := fmt_bl x hx
  have hs : sgn (bl (fmt x)) = if x < 0 then 1 else 0 := by
    rw [h1]
    split
    · rfl
    · cases ds with
      | nil => simp at h3
      | cons c r =>
        simp only [List.all_cons, Bool.and_eq_true, dig, decide_eq_true_eq] at h2
        unfold sgn; rw [if_neg]; simp; omega
  have hd : (bl (fmt x)).drop (sgn (bl (fmt x))) = ds := by
    rw [hs, h1]; split <;> rfl
  have hn : numOf (fmt x) = x := by
    unfold numOf
    rw [hs, h1]
    by_cases h : x < 0
    · rw [if_pos h, if_pos rfl, if_pos h]; show -(fold10 0 ds) = x; rw [h5]; omega
    · rw [if_neg h, if_neg (by omega), if_neg h]; show fold10 0 ds = x; rw [h5]; omega
  refine ⟨?_, hn⟩
  unfold isNum
  rw [hd, hn]; simp [h2, h3, h4]
theorem bt_lt (s : ByteArray) (i : Nat) (h : i < s.size) : 0 ≤ bt s (i : Int) ∧ bt s (i : Int) ≤ 255 := bt_range s i
theorem impl_int (s : ByteArray) (hs : s.size ≤ 1048577) : Ev (fun k => impl_ParseInt.f k s) (pI s) := by
  have hl := bl_len s
  have loop : ∀ (a : Nat), a ≤ 1 → a = sgn (bl s) → s.size - a ≤ 9 → 1 ≤ s.size - a → ∀ (d i : Nat) (n : Int), i + d = s.size → a ≤ i → ((((bl s).drop a).take (i - a)).all dig) = true → n = fold10 0 (((bl s).drop a).take (i - a)) →
      Ev (fun k => impl_ParseInt.l0 k s (a : Int) n (i : Int)) (pI s) := by
    intro a ha1 ha h9 h1 d
    induction d with
    | zero =>
      intro i n hi hai hd hn
      have ht : ((bl s).drop a).take (i - a) = (bl s).drop a := List.take_of_length_le (by rw [List.length_drop]; omega)
      rw [ht] at hd hn
      have hb := fold10_bound ((bl s).drop a) 0 (by omega) hd
      have hp := pow9 (n := ((bl s).drop a).length) (by rw [List.length_drop]; omega)
      have hB : 0 ≤ n ∧ n < 1000000000 := by rw [hn]; omega
      have hm : numOf s = if a = 1 then -n else n := by
        unfold numOf; rw [← ha]
        by_cases h : a = 1
        · subst h; rw [if_pos rfl, if_pos rfl, hn]
        · obtain rfl : a = 0 := by omega
          rw [if_neg (by omega), if_neg (by omega), hn]; rfl
      have hi2 : isNum s = decide (fmt (numOf s) = s) := by
        unfold isNum; rw [← ha, hd, List.length_drop, decide_eq_true (show 1 ≤ (bl s).length - a by omega), decide_eq_true (show (bl s).length - a ≤ 9 by omega)]
        simp only [Bool.true_and]
      refine Ev.step (fun k => by rw [impl_ParseInt.l0]) (Ev.neg (by omega) ?_)
      have fin : ∀ m : Int, m = numOf s → Ev (fun k => (impl_FormatInt.f k m).bind fun t => if t.toList = s.toList then some (m, true) else some (0, false)) (pI s) := by
        intro m hm2
        have hw : (Lit.int .i64 m).wf = true := wfOf (by rw [hm2, hm]; split <;> omega) (by rw [hm2, hm]; split <;> omega)
        refine Ev.bind (impl_ev hw) ?_
        unfold pI
        by_cases h : fmt m = s
        · refine Ev.pos (list_eq.2 h) (Ev.const ?_)
          rw [if_pos (by rw [hi2, ← hm2]; exact decide_eq_true h), hm2]
        · refine Ev.neg (fun x => h (list_eq.1 x)) (Ev.const ?_)
          rw [if_neg (by rw [hi2, ← hm2]; simpa using h)]
      by_cases h : a = 1
      · refine Ev.pos (by omega) ?_
        have e : wrap64 (-n) = -n := w64 (by omega) (by omega)
        rw [e]
        exact fin (-n) (by rw [hm, if_pos h])
      · refine Ev.neg (by omega) ?_
        exact fin n (by rw [hm, if_neg h])
    | succ d ih =>
      intro i n hi hai hd hn
      have hlt : i < s.size := by omega
      have hlt' : i < (bl s).length := by omega
      have hx : i - a < ((bl s).drop a).length := by rw [List.length_drop]; omega
      have hg : ((bl s).drop a)[i - a] = (bl s)[i] := by rw [List.getElem_drop]; congr 1; omega
      have e := bt_bl s i hlt
      have hbt := bt_lt s i hlt
      have hb := fold10_bound _ 0 (by omega) hd
      have hp := pow9 (n := (((bl s).drop a).take (i - a)).length) (by rw [List.length_take]; omega)
      rw [← hn] at hb
      have bad : dig (bl s)[i] = false → Ev (fun _ => some ((0 : Int), false)) (pI s) := by
        intro h
        refine Ev.const ?_
        unfold pI; rw [if_neg]
        unfold isNum; rw [← ha]
        have : ((bl s).drop a).all dig = false := by
          rw [List.all_eq_false]
          exact ⟨(bl s)[i], by rw [← hg]; exact List.getElem_mem hx, by simp [h]⟩
        rw [this]; simp
      refine Ev.step (fun k => by rw [impl_ParseInt.l0]) (Ev.pos (by omega) (Ev.pos (by omega) ?_))
      by_cases c1 : bt s i < 48
      · exact Ev.pos c1 (bad (by unfold dig; rw [← e]; exact decide_eq_false (by omega)))
      refine Ev.neg c1 ?_
      by_cases c2 : bt s i > 57
      · exact Ev.pos c2 (bad (by unfold dig; rw [← e]; exact decide_eq_false (by omega)))
      refine Ev.neg c2 ?_
      have w : wrap64 (wrap64 (10 * n) + (bt s i - 48) % 256) = 10 * n + (bt s i - 48) := by unfold wrap64; omega
      rw [w, inc (by omega)]
      have hsn : ((bl s).drop a).take (i + 1 - a) = ((bl s).drop a).take (i - a) ++ [(bl s)[i]] := by
        rw [show i + 1 - a = (i - a) + 1 by omega, take_snoc hx, hg]
      refine ih (i + 1) _ (by omega) (by omega) ?_ ?_
      · rw [hsn, List.all_append, hd]
        simp only [List.all_cons, List.all_nil, Bool.and_true, Bool.true_and, dig, decide_eq_true_eq]; rw [← e]; omega
      · rw [hsn, fold10_snoc, ← hn, ← e]
  have start : ∀ (a : Nat), a = sgn (bl s) → Ev (fun k => impl_ParseInt.j1 k s (a : Int)) (pI s) := by
    intro a ha
    have ha1 : a ≤ 1 := by rw [ha]; unfold sgn; split <;> omega
    have hsz : a ≤ s.size := by
      rw [ha, ← hl]; unfold sgn; split
      · rename_i h
        cases h2 : bl s with
        | nil => rw [h2] at h; cases h
        | cons c r => simp
      · omega
    refine Ev.step (fun k => by rw [impl_ParseInt.j1]) ?_
    have e : wrap64 ((s.size : Int) - (a : Int)) = ((s.size - a : Nat) : Int) := by rw [w64 (by omega) (by omega)]; omega
    rw [e]
    refine Ev.bindc (impl_in _ _ _) ?_
    by_cases h : 1 ≤ s.size - a ∧ s.size - a ≤ 9
    · refine Ev.pos (by unfold inr; exact decide_eq_true (by omega)) ?_
      refine loop a ha1 ha h.2 h.1 (s.size - a) a 0 (by omega) (by omega) ?_ ?_
      · rw [Nat.sub_self]; rfl
      · rw [Nat.sub_self]; rfl
    · refine Ev.neg (by unfold inr; rw [decide_eq_true_eq]; omega) (Ev.const ?_)
      unfold pI; rw [if_neg]
      unfold isNum; rw [← ha, List.length_drop, hl]
      simp only [Bool.and_eq_true, decide_eq_true_eq]; omega
  unfold impl_ParseInt.f
  by_cases h0 : 0 < s.size
  · refine Ev.pos (by omega) (Ev.pos (by omega) ?_)
    have e := bt_bl s 0 h0
    have hh : (bl s).head? = some (bt s 0) := by
      have e' : bt s 0 = (bl s)[0]'(by omega) := e
      rw [e', List.head?_eq_getElem?, List.getElem?_eq_getElem]
    refine Ev.step (fun k => by rw [impl_ParseInt.j0]) ?_
    by_cases h : bt s 0 = 45
    · refine Ev.pos (by simpa using h) (start 1 ?_)
      unfold sgn; rw [if_pos (by rw [hh, h])]
    · refine Ev.neg (by simpa using h) (start 0 ?_)
      unfold sgn; rw [if_neg (by rw [hh]; simpa using h)]
  · refine Ev.neg (by omega) ?_
    refine Ev.step (fun k => by rw [impl_ParseInt.j0]) ?_
    refine Ev.neg (by simp) (start 0 ?_)
    have : bl s = [] := List.length_eq_zero_iff.1 (by omega)
    rw [this]; rfl
def scan : Int → Nat → List Int → Int × Nat
  | n, k, [] => (n, k)
  | n, k, c :: r => if dig c = true then scan (10 * n + (c - 48)) (k + 1) r else scan n k r
theorem scan_snoc : ∀ (l : List Int) (n : Int) (k : Nat) (c : Int), scan n k (l ++ [c]) = if dig c = true then (10 * (scan n k l).1 + (c - 48), (scan n k l).2 + 1) else scan n k l := by
  intro l
  induction l with
  | nil => intro n k c; rfl
  | cons x r ih =>
    intro n k c
    rw [List.cons_append, scan, scan]
    split <;> exact ih _ _ c
theorem scan_dig : ∀ (l : List Int) (n : Int) (k : Nat), (l.all dig) = true → scan n k l = (fold10 n l, k + l.length) := by
  intro l
  induction l with
  | nil => intro n k _; rfl
  | cons x r ih =>
    intro n k h
    simp only [List.all_cons, Bool.and_eq_true] at h
    rw [scan, if_pos h.1, ih _ _ h.2, fold10, List.length_cons]
    congr 1; omega
theorem scan_bound (l : List Int) : 0 ≤ (scan 0 0 l).1 ∧ (scan 0 0 l).1 < 10 ^ (scan 0 0 l).2 ∧ (scan 0 0 l).2 ≤ l.length := by
  have gen : ∀ (l : List Int) (n : Int) (k : Nat), 0 ≤ n → n < 10 ^ k → 0 ≤ (scan n k l).1 ∧ (scan n k l).1 < 10 ^ (scan n k l).2 ∧ (scan n k l).2 ≤ k + l.length := by
    intro l
    induction l with
    | nil => intro n k h1 h2; exact ⟨h1, h2, Nat.le_refl _⟩
    | cons x r ih =>
      intro n k h1 h2
      rw [scan, List.length_cons]
      split
      · rename_i h
        simp only [dig, decide_eq_true_eq] at h
        have := ih (10 * n + (x - 48)) (k + 1) (by omega) (by rw [Int.pow_succ]; omega)
        exact ⟨this.1, this.2.1, by omega⟩
      · have := ih n k h1 h2
        exact ⟨this.1, this.2.1, by omega⟩
  have := gen l 0 0 (by omega) (by decide)
  exact ⟨this.1, this.2.1, by omega⟩
theorem spec_int (s : ByteArray) (hs : s.size ≤ 1048577) : Ev (fun k => spec_ParseInt.f k s) (pI s) := by
  have hl := bl_len s
  -- what is answered at the end
  have fin : ∀ (n : Int) (c : Nat) (v : Bool), (n, c) = scan 0 0 ((bl s).take 11) → v = decide ((bl s).head? = some 45) → Ev (fun k => spec_ParseInt.j2 k s n (c : Int) v) (pI s) := by
    intro n c v hnc hv
    have hb := scan_bound ((bl s).take 11)
    rw [← hnc] at hb
    have hlt : c ≤ 11 := by have := hb.2.2; rw [List.length_take] at this; simp only at this; omega
    have hB : 0 ≤ n ∧ n < 100000000000 := by
      have h1 := Nat.pow_le_pow_right (show 0 < 10 by omega) hlt
      have h2 : (10 : Nat) ^ 11 = 100000000000 := by decide
      have h3 : (10 : Int) ^ c = ((10 ^ c : Nat) : Int) := by rw [Int.natCast_pow]; rfl
      have h4 := hb.2.1
      simp only at h4; rw [h3] at h4
      exact ⟨hb.1, by omega⟩
    have key : ∀ m : Int, m = (if v = true then -n else n) → Ev (fun k => if (c : Int) > 9 then some (0, false) else if (s.size : Int) > 10 then some (0, false) else (spec_FormatInt.f k m).bind fun t => if t.toList = s.toList then some (m, true) else some (0, false)) (pI s) := by
      intro m hm
      -- if the text is a number's, all is found
      have good : isNum s = true → c ≤ 9 ∧ s.size ≤ 10 ∧ m = numOf s ∧ fmt m = s := by
        intro h
        have h' := h
        unfold isNum at h'
        simp only [Bool.and_eq_true, decide_eq_true_eq] at h'
        obtain ⟨g1, g2, g3, g4⟩ := h'
        have g5 : s.size ≤ 10 := by
          rw [List.length_drop, hl] at g2
          have : sgn (bl s) ≤ 1 := by unfold sgn; split <;> omega
          omega
        have ht : (bl s).take 11 = bl s := List.take_of_length_le (by omega)
        rw [ht] at hnc
        have hm2 : m = numOf s ∧ c ≤ 9 := by
          by_cases hh : (bl s).head? = some 45
          · have hs1 : sgn (bl s) = 1 := by unfold sgn; rw [if_pos hh]
            rw [hs1] at g2 g3
            obtain ⟨r, hr⟩ : ∃ r, bl s = 45 :: r := by
              cases h2 : bl s with
              | nil => rw [h2] at hh; cases hh
              | cons x r => rw [h2] at hh; simp only [List.head?_cons, Option.some.injEq] at hh; subst hh; exact ⟨r, rfl⟩
            rw [hr] at g2 g3 hnc
            simp only [List.drop_succ_cons, List.drop_zero] at g2 g3
            rw [scan, if_neg (by decide), scan_dig _ _ _ g3] at hnc
            have e1 := congrArg Prod.fst hnc; have e2 := congrArg Prod.snd hnc
            simp only at e1 e2
            refine ⟨?_, by omega⟩
            unfold numOf; rw [if_pos hs1, hr, hm, if_pos (by rw [hv]; exact decide_eq_true hh), e1]; rfl
          · have hs1 : sgn (bl s) = 0 := by unfold sgn; rw [if_neg hh]
            rw [hs1, List.drop_zero] at g2 g3
            rw [scan_dig _ _ _ g3] at hnc
            have e1 := congrArg Prod.fst hnc; have e2 := congrArg Prod.snd hnc
            simp only at e1 e2
            refine ⟨?_, by omega⟩
            unfold numOf; rw [if_neg (by omega), hm, if_neg (by rw [hv]; simpa using hh), e1]
        exact ⟨hm2.2, g5, hm2.1, by rw [hm2.1]; exact g4⟩
      have out : ¬ (c ≤ 9 ∧ s.size ≤ 10 ∧ fmt m = s) → pI s = (0, false) := by
        intro h
        unfold pI; rw [if_neg]
        intro h2
        have := good h2
        exact h ⟨this.1, this.2.1, this.2.2.2⟩
      by_cases c1 : c ≤ 9
      · refine Ev.neg (by omega) ?_
        by_cases c2 : s.size ≤ 10
        · refine Ev.neg (by omega) ?_
          have hw : (Lit.int .i64 m).wf = true := wfOf (by rw [hm]; split <;> omega) (by rw [hm]; split <;> omega)
          refine Ev.bind (spec_ev hw) ?_
          by_cases h : fmt m = s
          · refine Ev.pos (list_eq.2 h) (Ev.const ?_)
            have hp := pow9 c1
            have h4 := hb.2.1
            simp only at h4
            have := isNum_fmt m (by rw [hm]; split <;> omega)
            rw [h] at this
            unfold pI; rw [if_pos this.1, this.2]
          · exact Ev.neg (fun x => h (list_eq.1 x)) (Ev.const (by rw [out (fun x => h x.2.2)]))
        · exact Ev.pos (by omega) (Ev.const (by rw [out (fun x => c2 x.2.1)]))
      · exact Ev.pos (by omega) (Ev.const (by rw [out (fun x => c1 x.1)]))
    refine Ev.step (fun k => by rw [spec_ParseInt.j2]) ?_
    have e : wrap64 (-n) = -n := w64 (by omega) (by omega)
    rw [e]
    by_cases h : v = true
    · exact Ev.pos h (key (-n) (by rw [if_pos h]))
    · exact Ev.neg h (key n (by rw [if_neg h]))
  have loop : ∀ (d i : Nat) (n : Int) (c : Nat), i + d = min s.size 11 → (n, c) = scan 0 0 ((bl s).take i) → Ev (fun k => spec_ParseInt.l0 k s n (c : Int) (i : Int)) (pI s) := by
    intro d
    induction d with
    | zero =>
      intro i n c hi hnc
      have hend : Ev (fun k => spec_ParseInt.j1 k s n (c : Int) (i : Int) false) (pI s) := by
        have ht : (bl s).take i = (bl s).take 11 := by
          by_cases h : s.size ≤ 11
          · rw [List.take_of_length_le (by omega), List.take_of_length_le (by omega)]
          · rw [show i = 11 by omega]
        rw [ht] at hnc
        refine Ev.step (fun k => by rw [spec_ParseInt.j1]) (Ev.neg (by simp) ?_)
        by_cases h0 : 0 < s.size
        · refine Ev.pos (by omega) (Ev.pos (by omega) (fin n c _ hnc ?_))
          have e' : bt s 0 = (bl s)[0]'(by omega) := bt_bl s 0 h0
          rw [List.head?_eq_getElem?, List.getElem?_eq_getElem (by omega), ← e']
          simp only [Option.some.injEq]
          by_cases h : bt s 0 = 45 <;> simp [h]
        · refine Ev.neg (by omega) (fin n c _ hnc ?_)
          have : bl s = [] := List.length_eq_zero_iff.1 (by omega)
          rw [this]; rfl
      refine Ev.step (fun k => by rw [spec_ParseInt.l0]) ?_
      by_cases h : i < s.size
      · refine Ev.pos (by omega) (Ev.eq hend ?_ rfl)
        funext k; rw [decide_eq_false (show ¬ (i : Int) < 11 by omega)]
      · exact Ev.neg (by omega) hend
    | succ d ih =>
      intro i n c hi hnc
      have hlt : i < s.size := by omega
      have e := bt_bl s i hlt
      have hbt := bt_lt s i hlt
      have hb := scan_bound ((bl s).take i)
      rw [← hnc] at hb
      have hc : c ≤ 11 := by have := hb.2.2; rw [List.length_take] at this; simp only at this; omega
      have hB : 0 ≤ n ∧ n < 100000000000 := by
        have h1 := Nat.pow_le_pow_right (show 0 < 10 by omega) hc
        have h2 : (10 : Nat) ^ 11 = 100000000000 := by decide
        have h3 : (10 : Int) ^ c = ((10 ^ c : Nat) : Int) := by rw [Int.natCast_pow]; rfl
        have h4 := hb.2.1
        simp only at h4; rw [h3] at h4
        exact ⟨hb.1, by omega⟩
      have hsn : (bl s).take (i + 1) = (bl s).take i ++ [(bl s)[i]] := take_snoc (by omega)
      have nx : ∀ (n' : Int) (c' : Nat), (n', c') = (if dig (bt s i) = true then (10 * n + (bt s i - 48), c + 1) else (n, c)) → Ev (fun k => spec_ParseInt.l0 k s n' (c' : Int) ((i + 1 : Nat) : Int)) (pI s) := by
        intro n' c' h
        refine ih (i + 1) n' c' (by omega) ?_
        rw [hsn, scan_snoc, ← hnc, h, e]
      refine Ev.step (fun k => by rw [spec_ParseInt.l0]) (Ev.pos (by omega) ?_)
      refine Ev.step (fun k => by rw [spec_ParseInt.j1]) (Ev.pos (by exact decide_eq_true (by omega)) (Ev.pos (by omega) (Ev.pos (by omega) ?_)))
      have w : wrap64 (wrap64 (n * 10) + (bt s i - 48) % 256) = (if 48 ≤ bt s i ∧ bt s i ≤ 57 then 10 * n + (bt s i - 48) else wrap64 (wrap64 (n * 10) + (bt s i - 48) % 256)) := by
        split
        · unfold wrap64; omega
        · rfl
      rw [w, inc (i := i) (by omega), inc (i := c) (by omega)]
      by_cases c1 : bt s i ≥ 48
      · refine Ev.pos c1 ?_
        by_cases c2 : bt s i ≤ 57
        · refine Ev.pos c2 ?_
          rw [if_pos ⟨c1, c2⟩]
          refine nx _ _ ?_
          rw [if_pos (by unfold dig; exact decide_eq_true ⟨c1, c2⟩)]
        · refine Ev.neg c2 (nx _ _ ?_)
          rw [if_neg (by unfold dig; rw [decide_eq_true_eq]; omega)]
      · refine Ev.neg c1 (nx _ _ ?_)
        rw [if_neg (by unfold dig; rw [decide_eq_true_eq]; omega)]
  exact Ev.eq (loop (min s.size 11) 0 0 0 (by omega) (by simp [scan])) (by funext k; rw [spec_ParseInt.f]; rfl) rfl
end Go.Proofs.Ytjiipeidginjnaa.PPInt

namespace Go.Proofs.Ytjiipeidginjnaa.PCut
open Go.RowKit Go.Proofs.Ytjiipeidginjnaa.P Go.Proofs.YtjiipeidginjnaaW.PrintWords Go.Proofs.YtjiipeidginjnaaW.PrintLast Go.Proofs.Ytjiipeidginjnaa.PB Go.Proofs.Ytjiipeidginjnaa.PNum Go.Proofs.Ytjiipeidginjnaa.PPInt
set_option linter.unusedVariables false

theorem bl_range (s : ByteArray) : ∀ x ∈ bl s, 0 ≤ x ∧ x ≤ 255 := by
  intro x hx
  unfold bl at hx
  obtain ⟨y, hy, rfl⟩ := List.mem_map.1 hx
  have := y.toNat_lt; omega
theorem un_bl (s : ByteArray) : strOfNums (bl s) = s := bl_inj (bl_nums _ (bl_range s))
theorem bl_ext (s : ByteArray) (a b : Nat) : bl (s.extract a b) = ((bl s).drop a).take (b - a) := by
  unfold bl; rw [Go.Lib.extract_data, List.map_take, List.map_drop]
theorem ext_bl (s : ByteArray) (a b : Nat) : s.extract a b = strOfNums (((bl s).drop a).take (b - a)) := by
  rw [← bl_ext, un_bl]
/-- The parts between commas. -/
def cutL : List Int → List Int → List (List Int)
  | cur, [] => [cur]
  | cur, c :: r => if c = 44 then cur :: cutL [] r else cutL (cur ++ [c]) r
def cutB (s : ByteArray) : List ByteArray := (cutL [] (bl s)).map strOfNums
theorem cutL_len : ∀ (l cur : List Int), (cutL cur l).length ≤ l.length + 1 := by
  intro l
  induction l with
  | nil => intro cur; simp [cutL]
  | cons c r ih =>
    intro cur; rw [cutL]; split
    · have := ih []; simp only [List.length_cons]; omega
    · have := ih (cur ++ [c]); simp only [List.length_cons]; omega
theorem impl_cut_ev (s : ByteArray) (hs : s.size ≤ 1048577) : Ev (fun k => impl_cut.f k s (⟨#[44]⟩ : ByteArray)) (cutB s) := by
  have hl := bl_len s
  have c1 : ((⟨#[44]⟩ : ByteArray).size : Int) = 1 := rfl
  have loop : ∀ (d i fr : Nat) (acc : List ByteArray), i + d = s.size → fr ≤ i → acc.length ≤ i → Ev (fun k => impl_cut.l0 k s (⟨#[44]⟩ : ByteArray) acc (fr : Int) (i : Int)) (acc ++ (cutL (((bl s).drop fr).take (i - fr)) ((bl s).drop i)).map strOfNums) := by
    intro d
    induction d with
    | zero =>
      intro i fr acc hi hf ha
      refine Ev.step (fun k => by rw [impl_cut.l0]) ?_
      rw [c1, inc (by omega)]
      refine Ev.neg (by omega) (Ev.pos (by omega) (Ev.pos (by omega) (Ev.pos (by omega) (Ev.const ?_))))
      rw [List.drop_of_length_le (show (bl s).length ≤ i by omega), cutL, ext_bl]
      rw [show (fr : Int).toNat = fr from rfl, show s.size - fr = i - fr by omega]; rfl
    | succ d ih =>
      intro i fr acc hi hf ha
      have hlt : i < s.size := by omega
      have hlt' : i < (bl s).length := by omega
      refine Ev.step (fun k => by rw [impl_cut.l0]) ?_
      rw [c1, inc (by omega)]
      refine Ev.pos (by omega) (Ev.pos (by omega) (Ev.pos (by omega) ?_))
      rw [drop_cons hlt', cutL]
      have hx : bl (s.extract i (i + 1)) = [(bl s)[i]] := by
        rw [bl_ext, drop_cons hlt', show i + 1 - i = 1 by omega]; rfl
      have hq : ((s.extract (i : Int).toNat ((i + 1 : Nat) : Int).toNat).toList = (⟨#[44]⟩ : ByteArray).toList) ↔ (bl s)[i] = 44 := by
        rw [list_eq]
        constructor
        · intro h
          have h2 : bl (s.extract i (i + 1)) = bl (⟨#[44]⟩ : ByteArray) := congrArg bl h
          rw [hx] at h2
          exact List.head_eq_of_cons_eq h2
        · intro h
          apply bl_inj
          show bl (s.extract i (i + 1)) = _
          rw [hx, h]; rfl
      by_cases h : (bl s)[i] = 44
      · rw [if_pos h]
        refine Ev.pos (hq.2 h) (Ev.pos (by omega) (Ev.pos (by omega) (Ev.pos (by omega) (Ev.pos (by omega) ?_))))
        refine Ev.eq (ih (i + 1) (i + 1) (acc ++ [s.extract fr i]) (by omega) (by omega) (by simp; omega)) rfl ?_
        rw [Nat.sub_self, List.take_zero, ext_bl, List.append_assoc]; rfl
      · rw [if_neg h]
        refine Ev.neg (fun x => h (hq.1 x)) ?_
        refine Ev.eq (ih (i + 1) fr acc (by omega) (by omega) (by omega)) rfl ?_
        have hg : i - fr < ((bl s).drop fr).length := by rw [List.length_drop]; omega
        have e : ((bl s).drop fr)[i - fr] = (bl s)[i] := by rw [List.getElem_drop]; congr 1; omega
        rw [show i + 1 - fr = (i - fr) + 1 by omega, take_snoc hg, e]
  exact Ev.eq (loop s.size 0 0 [] (by omega) (by omega) (by simp)) (by funext k; rw [impl_cut.f]; rfl) (by simp [cutB])
theorem spec_cut_ev (s : ByteArray) (hs : s.size ≤ 1048577) : Ev (fun k => spec_l2Cut.f k s 44) (cutB s) := by
  have hl := bl_len s
  have loop : ∀ (d i : Nat) (acc : List ByteArray) (part : ByteArray), i + d = s.size → acc.length ≤ i → part.size ≤ i → Ev (fun k => spec_l2Cut.l0 k s 44 acc part (i : Int)) (acc ++ (cutL (bl part) ((bl s).drop i)).map strOfNums) := by
    intro d
    induction d with
    | zero =>
      intro i acc part hi ha hp
      refine Ev.step (fun k => by rw [spec_l2Cut.l0]) ?_
      refine Ev.neg (by omega) (Ev.pos (by omega) (Ev.const ?_))
      rw [List.drop_of_length_le (show (bl s).length ≤ i by omega), cutL, List.map_cons, un_bl]; rfl
    | succ d ih =>
      intro i acc part hi ha hp
      have hlt : i < s.size := by omega
      have hlt' : i < (bl s).length := by omega
      have e := bt_bl s i hlt
      refine Ev.step (fun k => by rw [spec_l2Cut.l0]) ?_
      rw [inc (by omega)]
      refine Ev.pos (by omega) (Ev.pos (by omega) ?_)
      rw [drop_cons hlt', cutL, ← e]
      by_cases h : bt s i = 44
      · rw [if_pos h]
        refine Ev.pos h (Ev.pos (by omega) ?_)
        refine Ev.eq (ih (i + 1) (acc ++ [part]) ⟨#[]⟩ (by omega) (by simp; omega) (by show 0 ≤ _; omega)) rfl ?_
        rw [List.append_assoc, List.map_cons, un_bl]; rfl
      · rw [if_neg h]
        have hx : bl (s.extract i (i + 1)) = [(bl s)[i]] := by
          rw [bl_ext, drop_cons hlt', show i + 1 - i = 1 by omega]; rfl
        have hz : (s.extract (i : Int).toNat ((i + 1 : Nat) : Int).toNat).size = 1 := by
          show (s.extract i (i + 1)).size = 1
          rw [← bl_len, hx]; rfl
        refine Ev.neg h (Ev.pos (by omega) (Ev.pos (by omega) (Ev.pos (by omega) ?_)))
        refine Ev.eq (ih (i + 1) acc (part ++ s.extract i (i + 1)) (by omega) (by omega) (by rw [ByteArray.size_append]; have : (s.extract i (i + 1)).size = 1 := hz; omega)) rfl ?_
        rw [bl_app, hx, e]
  exact Ev.eq (loop s.size 0 [] ⟨#[]⟩ (by omega) (by simp) (by show 0 ≤ _; omega)) (by funext k; rw [spec_l2Cut.f]; rfl) (by simp [cutB, bl])
end Go.Proofs.Ytjiipeidginjnaa.PCut

namespace Go.Proofs.Ytjiipeidginjnaa.PJoin
open Go.RowKit Go.Proofs.Ytjiipeidginjnaa.P Go.Proofs.YtjiipeidginjnaaW.PrintWords Go.Proofs.YtjiipeidginjnaaW.PrintLast Go.Proofs.Ytjiipeidginjnaa.PB Go.Proofs.Ytjiipeidginjnaa.PNum
set_option linter.unusedVariables false

/-- What is there is followed by the texts; ahead of each, or of each but the first, stands 'by'. -/
def jn (b : ByteArray) : Bool → ByteArray → List ByteArray → ByteArray
  | _, s, [] => s
  | p, s, x :: r => jn b true (if p = true then (s ++ b) ++ x else s ++ x) r
def total (b : ByteArray) : List ByteArray → Nat
  | [] => 0
  | x :: r => b.size + x.size + total b r
theorem total_map {α : Type} (b : ByteArray) (f : α → ByteArray) (B : Nat) (xs : List α) (h : ∀ x ∈ xs, (f x).size ≤ B) : total b (xs.map f) ≤ xs.length * (b.size + B) := by
  induction xs with
  | nil => simp [total]
  | cons x r ih =>
    have := ih (fun y hy => h y (by simp [hy])); have := h x (by simp)
    simp only [List.map_cons, total, List.length_cons, Nat.add_mul]; omega
theorem jn_size (b : ByteArray) : ∀ (xs : List ByteArray) (p : Bool) (s : ByteArray), (jn b p s xs).size ≤ s.size + total b xs := by
  intro xs
  induction xs with
  | nil => intro p s; simp [jn, total]
  | cons x r ih =>
    intro p s
    rw [jn]; refine Nat.le_trans (ih _ _) ?_
    cases p <;> simp [total, ByteArray.size_append] <;> omega
theorem glued_loop (b : ByteArray) (l : List ByteArray) (hl : l.length ≤ 4611686018427387000) : ∀ (d i : Nat) (s : ByteArray), i + d = l.length → s.size + total b (l.drop i) ≤ 9223372036854775807 →
    Ev (fun k => impl_glued.l0 k b s l (l.length : Int) (i : Int)) (jn b (decide (0 < i)) s (l.drop i)) := by
  intro d
  induction d with
  | zero =>
    intro i s hi hs
    obtain rfl : i = l.length := by omega
    refine Ev.step (fun k => by rw [impl_glued.l0]) (Ev.neg (by omega) (Ev.const ?_))
    simp [jn]
  | succ d ih =>
    intro i s hi hs
    have hlt : i < l.length := by omega
    rw [drop_cons hlt] at hs ⊢
    simp only [total] at hs
    refine Ev.step (fun k => by rw [impl_glued.l0]) (Ev.pos (by omega) (Ev.pos (by omega) (Ev.pos (by omega) ?_)))
    rw [rdOf_nat _ _ _ hlt, inc (by omega)]
    by_cases h0 : 0 < i
    · refine Ev.pos (by omega) (Ev.pos (by omega) (Ev.pos (by rw [ByteArray.size_append]; omega) ?_))
      refine Ev.eq (ih (i + 1) _ (by omega) (by simp only [ByteArray.size_append]; omega)) rfl ?_
      simp [jn, h0]
    · obtain rfl : i = 0 := by omega
      refine Ev.neg (by omega) (Ev.pos (by omega) ?_)
      refine Ev.eq (ih (0 + 1) _ (by omega) (by simp only [ByteArray.size_append]; omega)) rfl ?_
      simp [jn]
theorem glued_ev (b : ByteArray) (l : List ByteArray) (hl : l.length ≤ 4611686018427387000) (ht : total b l ≤ 9223372036854775807) : Ev (fun k => impl_glued.f k l b) (jn b false ⟨#[]⟩ l) := by
  have := glued_loop b l hl l.length 0 ⟨#[]⟩ (by omega) (by have e0 : (⟨#[]⟩ : ByteArray).size = 0 := rfl; rw [List.drop_zero]; omega)
  exact Ev.eq this (by funext k; rw [impl_glued.f]; rfl) (by simp)

def comma : ByteArray := ⟨#[44]⟩
theorem numbers_loop (l : List Int) (hl : l.length ≤ 8796093022207) (hw : ∀ x ∈ l, (Lit.int .i64 x).wf = true) : ∀ (d i : Nat), i + d = l.length →
    Ev (fun k => impl_numbers.l0 k ((l.take i).map fmt) l (l.length : Int) (i : Int)) (jn comma false ⟨#[]⟩ (l.map fmt)) := by
  intro d
  induction d with
  | zero =>
    intro i hi
    obtain rfl : i = l.length := by omega
    refine Ev.step (fun k => by rw [impl_numbers.l0]) (Ev.neg (by omega) ?_)
    rw [List.take_length]
    refine Ev.last (f := fun x => x) (glued_ev comma (l.map fmt) (by simp; omega) ?_)
    have := total_map comma fmt 21 l (fun x _ => fmt_size x)
    have e : comma.size = 1 := rfl
    rw [e] at this; omega
  | succ d ih =>
    intro i hi
    have hlt : i < l.length := by omega
    refine Ev.step (fun k => by rw [impl_numbers.l0]) (Ev.pos (by omega) (Ev.pos (by omega) (Ev.pos (by omega) ?_)))
    rw [rd_nat _ _ hlt, inc (by omega)]
    refine Ev.bind (impl_ev (hw _ (List.getElem_mem hlt))) (Ev.pos (by simp; omega) ?_)
    refine Ev.eq (ih (i + 1) (by omega)) ?_ rfl
    funext k
    rw [take_snoc hlt, List.map_append]; rfl
/-- Numbers with commas between. -/
def nums_ (l : List Int) : ByteArray := jn comma false ⟨#[]⟩ (l.map fmt)
theorem numbers_ev (l : List Int) (hl : l.length ≤ 8796093022207) (hw : ∀ x ∈ l, (Lit.int .i64 x).wf = true) : Ev (fun k => impl_numbers.f k l) (nums_ l) := by
  have := numbers_loop l hl hw l.length 0 (by omega)
  exact Ev.eq this (by funext k; rw [impl_numbers.f]; rfl) rfl
theorem nums_size (l : List Int) : (nums_ l).size ≤ l.length * 22 := by
  have h1 := jn_size comma (l.map fmt) false ⟨#[]⟩
  have h2 := total_map comma fmt 21 l (fun x _ => fmt_size x)
  have e : comma.size = 1 := rfl
  have e0 : (⟨#[]⟩ : ByteArray).size = 0 := rfl
  rw [e] at h2
  unfold nums_; omega
def none_ : ByteArray := ⟨#[110, 111, 110, 101]⟩
end Go.Proofs.Ytjiipeidginjnaa.PJoin

namespace Go.Proofs.Ytjiipeidginjnaa.PVals
open Go.RowKit Go.Proofs.Ytjiipeidginjnaa.P Go.Proofs.YtjiipeidginjnaaW.PrintWords Go.Proofs.YtjiipeidginjnaaW.PrintLast Go.Proofs.Ytjiipeidginjnaa.PB Go.Proofs.Ytjiipeidginjnaa.PIn
set_option linter.unusedVariables false
def vals (l : List Int) : Bool := l.all fun x => inr x 0 99
theorem values_loop (l : List Int) (hl : l.length ≤ 4611686018427387000) : ∀ (d i : Nat), i + d = l.length → Ev (fun k => impl_areValues.l0 k l (l.length : Int) (i : Int)) (vals (l.drop i)) := by
  intro d
  induction d with
  | zero =>
    intro i hi
    obtain rfl : i = l.length := by omega
    refine Ev.step (fun k => by rw [impl_areValues.l0]) (Ev.neg (by omega) (Ev.const ?_))
    simp [vals]
  | succ d ih =>
    intro i hi
    have hlt : i < l.length := by omega
    refine Ev.step (fun k => by rw [impl_areValues.l0]) (Ev.pos (by omega) (Ev.pos (by omega) (Ev.pos (by omega) ?_)))
    rw [rd_nat _ _ hlt, inc (by omega), drop_cons hlt]
    refine Ev.bindc (impl_in _ _ _) ?_
    by_cases h : inr l[i] 0 99 = true
    · refine Ev.pos h (Ev.eq (ih (i + 1) (by omega)) rfl ?_)
      simp [vals, h, -List.getElem_cons_drop]
    · refine Ev.neg h (Ev.const ?_)
      simp [vals, h, -List.getElem_cons_drop]
theorem values_ev (l : List Int) (hl : l.length ≤ 4611686018427387000) : Ev (fun k => impl_areValues.f k l) (vals l) :=
  Ev.eq (values_loop l hl l.length 0 (by omega)) (by funext k; rw [impl_areValues.f]; rfl) (by simp)
end Go.Proofs.Ytjiipeidginjnaa.PVals

namespace Go.Proofs.Ytjiipeidginjnaa.PFact
open Go.RowKit Go.Proofs.Ytjiipeidginjnaa.P Go.Proofs.YtjiipeidginjnaaW.PrintWords Go.Proofs.YtjiipeidginjnaaW.PrintLast Go.Proofs.Ytjiipeidginjnaa.PB Go.Proofs.Ytjiipeidginjnaa.PNum Go.Proofs.Ytjiipeidginjnaa.PJoin Go.Proofs.Ytjiipeidginjnaa.PIn Go.Proofs.Ytjiipeidginjnaa.PVals
set_option linter.unusedVariables false

def okFact (rel : Int) (args : List Int) : Bool := inr rel 0 3 && (inr args.length 1 3 && vals args)
def rB : ByteArray := ⟨#[114]⟩
def openB : ByteArray := ⟨#[40]⟩
def closeB : ByteArray := ⟨#[41]⟩
/-- The text of a fact. -/
def factB (rel : Int) (args : List Int) : ByteArray := if okFact rel args = true then (((rB ++ fmt rel) ++ openB) ++ nums_ args) ++ closeB else ⟨#[]⟩
theorem jn_pre (b a : ByteArray) : ∀ (l : List ByteArray) (p : Bool) (s : ByteArray), jn b p (a ++ s) l = a ++ jn b p s l := by
  intro l
  induction l with
  | nil => intro p s; simp [jn]
  | cons x r ih =>
    intro p s
    cases p <;> simp only [jn, ba_assoc, if_true, if_false, Bool.false_eq_true] <;> rw [ih]
theorem fact_size (rel : Int) (args : List Int) : (factB rel args).size ≤ 100 := by
  unfold factB
  split
  · rename_i h
    have hl : args.length ≤ 3 := by
      simp only [okFact, Bool.and_eq_true, inr, decide_eq_true_eq] at h; omega
    have h1 := fmt_size rel; have h2 := nums_size args
    have e1 : rB.size = 1 := rfl
    have e2 : openB.size = 1 := rfl
    have e3 : closeB.size = 1 := rfl
    simp only [ByteArray.size_append]; omega
  · show 0 ≤ 100; omega
theorem sfact_loop (rel : Int) (l : List Int) (hl : l.length ≤ 3) (hw : ∀ x ∈ l, (Lit.int .i64 x).wf = true) : ∀ (d i : Nat) (s : ByteArray), i + d = l.length → s.size ≤ 100 + 30 * i →
    Ev (fun k => spec_FormatFact.l0 k s (i : Int) rel l) (if vals (l.drop i) = true then jn comma (decide (0 < i)) s ((l.drop i).map fmt) ++ closeB else ⟨#[]⟩) := by
  intro d
  induction d with
  | zero =>
    intro i s hi hs
    obtain rfl : i = l.length := by omega
    refine Ev.step (fun k => by rw [spec_FormatFact.l0]) (Ev.neg (by omega) (Ev.pos (by omega) (Ev.const ?_)))
    simp [vals, jn, closeB]
  | succ d ih =>
    intro i s hi hs
    have hlt : i < l.length := by omega
    have hwi := spec_ev (hw _ (List.getElem_mem hlt))
    have hf := fmt_size l[i]
    have c1 : (⟨#[44]⟩ : ByteArray).size = 1 := rfl
    refine Ev.step (fun k => by rw [spec_FormatFact.l0]) (Ev.pos (by omega) (Ev.pos (by omega) ?_))
    rw [rd_nat _ _ hlt, inc (by omega), drop_cons hlt]
    refine Ev.bindc (spec_in _ _ _) ?_
    by_cases h : inr l[i] 0 99 = true
    · refine Ev.pos h ?_
      by_cases h0 : 0 < i
      · refine Ev.pos (by omega) (Ev.pos (by omega) (Ev.bind hwi (Ev.pos (by rw [ByteArray.size_append]; omega) ?_)))
        refine Ev.eq (ih (i + 1) _ (by omega) (by simp only [ByteArray.size_append]; omega)) rfl ?_
        simp [vals, h, jn, h0, comma, -List.getElem_cons_drop]
      · obtain rfl : i = 0 := by omega
        refine Ev.neg (by omega) (Ev.bind hwi (Ev.pos (by omega) ?_))
        refine Ev.eq (ih (0 + 1) _ (by omega) (by simp only [ByteArray.size_append]; omega)) rfl ?_
        simp [vals, h, jn, -List.getElem_cons_drop]
    · refine Ev.neg h (Ev.const ?_)
      simp [vals, h, -List.getElem_cons_drop]
theorem spec_fact {rel : Int} {args : List Int} (hr : (Lit.int .i64 rel).wf = true) (hw : ∀ x ∈ args, (Lit.int .i64 x).wf = true) : Ev (fun k => spec_FormatFact.f k rel args) (factB rel args) := by
  unfold spec_FormatFact.f
  refine Ev.bindc (spec_in _ _ _) ?_
  have hout : ∀ k : Nat, True := fun _ => trivial
  by_cases h1 : inr rel 0 3 = true
  · refine Ev.pos h1 (Ev.bindc (spec_in _ _ _) ?_)
    refine Ev.step (fun k => by rw [spec_FormatFact.j0]) ?_
    by_cases h2 : inr args.length 1 3 = true
    · refine Ev.neg (by simp [h2]) (Ev.bind (spec_ev hr) ?_)
      have hf := fmt_size rel
      have c1 : (⟨#[114]⟩ : ByteArray).size = 1 := rfl
      have c2 : (⟨#[40]⟩ : ByteArray).size = 1 := rfl
      refine Ev.pos (by omega) (Ev.pos (by rw [ByteArray.size_append]; omega) ?_)
      have hl : args.length ≤ 3 := by simp only [inr, decide_eq_true_eq] at h2; omega
      refine Ev.eq (sfact_loop rel args hl hw args.length 0 _ (by omega) (by simp only [ByteArray.size_append]; omega)) rfl ?_
      rw [List.drop_zero]
      unfold factB
      by_cases h3 : vals args = true
      · rw [if_pos h3, if_pos (by simp [okFact, h1, h2, h3])]
        have := jn_pre comma ((rB ++ fmt rel) ++ openB) (args.map fmt) false ⟨#[]⟩
        rw [ba_nil'] at this
        show jn comma (decide (0 < 0)) ((rB ++ fmt rel) ++ openB) (args.map fmt) ++ closeB = _
        rw [show decide (0 < 0) = false by decide, this]; rfl
      · rw [if_neg h3, if_neg (by simp [okFact, h1, h2, h3])]
    · refine Ev.pos (by simp [h2]) (Ev.const ?_)
      rw [factB, if_neg (by simp [okFact, h1, h2])]
  · refine Ev.neg h1 (Ev.step (fun k => by rw [spec_FormatFact.j0]) (Ev.pos rfl (Ev.const ?_)))
    rw [factB, if_neg (by simp [okFact, h1])]
theorem impl_fact {rel : Int} {args : List Int} (hr : (Lit.int .i64 rel).wf = true) (hw : ∀ x ∈ args, (Lit.int .i64 x).wf = true) : Ev (fun k => impl_FormatFact.f k rel args) (factB rel args) := by
  unfold impl_FormatFact.f
  refine Ev.bindc (impl_in _ _ _) ?_
  by_cases h1 : inr rel 0 3 = true
  · refine Ev.pos h1 (Ev.bindc (impl_in _ _ _) ?_)
    by_cases h2 : inr args.length 1 3 = true
    · have hl : args.length ≤ 3 := by simp only [inr, decide_eq_true_eq] at h2; omega
      refine Ev.pos h2 (Ev.bind (values_ev args (by omega)) ?_)
      refine Ev.step (fun k => by rw [impl_FormatFact.j0]) ?_
      by_cases h3 : vals args = true
      · have hf := fmt_size rel; have hn := nums_size args
        have c1 : (⟨#[114]⟩ : ByteArray).size = 1 := rfl
        have c2 : (⟨#[40]⟩ : ByteArray).size = 1 := rfl
        refine Ev.neg (by simp [h3]) (Ev.bind (impl_ev hr) (Ev.pos (by omega) (Ev.pos (by rw [ByteArray.size_append]; omega) (Ev.bind (numbers_ev args (by omega) hw) (Ev.pos (by simp only [ByteArray.size_append]; omega) (Ev.pos (by simp only [ByteArray.size_append]; omega) (Ev.const ?_)))))))
        rw [factB, if_pos (by simp [okFact, h1, h2, h3])]; rfl
      · refine Ev.pos (by simp [h3]) (Ev.const ?_)
        rw [factB, if_neg (by simp [okFact, h1, h2, h3])]
    · refine Ev.neg h2 (Ev.step (fun k => by rw [impl_FormatFact.j0]) (Ev.pos rfl (Ev.const ?_)))
      rw [factB, if_neg (by simp [okFact, h1, h2])]
  · refine Ev.neg h1 (Ev.step (fun k => by rw [impl_FormatFact.j0]) (Ev.pos rfl (Ev.const ?_)))
    rw [factB, if_neg (by simp [okFact, h1])]
end Go.Proofs.Ytjiipeidginjnaa.PFact

namespace Go.Proofs.Ytjiipeidginjnaa.PSchema
open Go.RowKit Go.Proofs.Ytjiipeidginjnaa.P Go.Proofs.YtjiipeidginjnaaW.PrintWords Go.Proofs.YtjiipeidginjnaaW.PrintLast Go.Proofs.Ytjiipeidginjnaa.PB Go.Proofs.Ytjiipeidginjnaa.PIn
set_option linter.unusedVariables false
def isSchema (l : List Int) : Bool := (l.all fun n => inr n 1 3) && inr l.length 1 4
theorem all_cons {α : Type} (p : α → Bool) (x : α) (r : List α) : (x :: r).all p = (p x && r.all p) := rfl
theorem spec_schema (l : List Int) (hl : l.length ≤ 1048576) : Ev (fun k => spec_IsSchema.f k l) (isSchema l) := by
  have loop : ∀ (d i : Nat), i + d = l.length → Ev (fun k => spec_IsSchema.l0 k (i : Int) l) (((l.drop i).all fun n => inr n 1 3) && inr l.length 1 4) := by
    intro d
    induction d with
    | zero =>
      intro i hi
      obtain rfl : i = l.length := by omega
      refine Ev.step (fun k => by rw [spec_IsSchema.l0]) (Ev.neg (by omega) (Ev.bindc (spec_in _ _ _) (Ev.const ?_)))
      simp
    | succ d ih =>
      intro i hi
      have hlt : i < l.length := by omega
      refine Ev.step (fun k => by rw [spec_IsSchema.l0]) (Ev.pos (by omega) (Ev.pos (by omega) ?_))
      rw [rd_nat _ _ hlt, inc (by omega), drop_cons hlt, all_cons]
      refine Ev.bindc (spec_in _ _ _) ?_
      cases h : inr l[i] 1 3 with
      | true => exact Ev.pos rfl (Ev.eq (ih (i + 1) (by omega)) rfl (by simp only [Bool.true_and]))
      | false => exact Ev.neg (by simp) (Ev.const rfl)
  exact Ev.eq (loop l.length 0 (by omega)) (by funext k; rw [spec_IsSchema.f]; rfl) (by simp [isSchema])
theorem impl_schema (l : List Int) (hl : l.length ≤ 1048576) : Ev (fun k => impl_IsSchema.f k l) (isSchema l) := by
  have loop : ∀ (d i : Nat), i + d = l.length → Ev (fun k => impl_IsSchema.l0 k l (l.length : Int) (i : Int) l) (((l.drop i).all fun n => inr n 1 3) && inr l.length 1 4) := by
    intro d
    induction d with
    | zero =>
      intro i hi
      obtain rfl : i = l.length := by omega
      refine Ev.step (fun k => by rw [impl_IsSchema.l0]) (Ev.neg (by omega) (Ev.bindc (impl_in _ _ _) (Ev.const ?_)))
      simp
    | succ d ih =>
      intro i hi
      have hlt : i < l.length := by omega
      refine Ev.step (fun k => by rw [impl_IsSchema.l0]) (Ev.pos (by omega) (Ev.pos (by omega) (Ev.pos (by omega) ?_)))
      rw [rd_nat _ _ hlt, inc (by omega), drop_cons hlt, all_cons]
      refine Ev.bindc (impl_in _ _ _) ?_
      cases h : inr l[i] 1 3 with
      | true => exact Ev.pos rfl (Ev.eq (ih (i + 1) (by omega)) rfl (by simp only [Bool.true_and]))
      | false => exact Ev.neg (by simp) (Ev.const rfl)
  exact Ev.eq (loop l.length 0 (by omega)) (by funext k; rw [impl_IsSchema.f]; rfl) (by simp [isSchema])
/-- A valid schema has a relation with so many arguments. -/
def takes (s : List Int) (rel n : Int) : Bool := isSchema s && (inr rel 0 (s.length - 1) && (rd s rel == n))
end Go.Proofs.Ytjiipeidginjnaa.PSchema

namespace Go.Proofs.Ytjiipeidginjnaa.PDb
open Go.RowKit Go.Proofs.Ytjiipeidginjnaa.P Go.Proofs.YtjiipeidginjnaaW.PrintWords Go.Proofs.YtjiipeidginjnaaW.PrintLast Go.Proofs.Ytjiipeidginjnaa.PB Go.Proofs.Ytjiipeidginjnaa.PIn Go.Proofs.Ytjiipeidginjnaa.PSchema Go.Proofs.Ytjiipeidginjnaa.PVals
set_option linter.unusedVariables false
theorem impl_takes (s : List Int) (rel n : Int) (hs : s.length ≤ 1048576) : Ev (fun k => impl_Schema_takes.f k s rel n) (takes s rel n) := by
  unfold impl_Schema_takes.f takes
  refine Ev.bind (impl_schema s hs) ?_
  cases h : isSchema s with
  | false => exact Ev.neg (by simp) (Ev.const rfl)
  | true =>
    refine Ev.pos rfl (Ev.bindc (impl_in _ _ _) ?_)
    rw [w64 (by omega) (by omega)]
    cases h2 : inr rel 0 (s.length - 1) with
    | false => exact Ev.neg (by simp) (Ev.const rfl)
    | true =>
      have h2' : 0 ≤ rel ∧ rel ≤ s.length - 1 := by simpa only [inr, decide_eq_true_eq] using h2
      exact Ev.pos rfl (Ev.pos (by omega) (Ev.pos (by omega) (Ev.const rfl)))
def isFact (s : List Int) (rel : Int) (args : List Int) : Bool := takes s rel args.length && vals args
theorem impl_isFact (s : List Int) (rel : Int) (args : List Int) (hs : s.length ≤ 1048576) (ha : args.length ≤ 1048576) : Ev (fun k => impl_IsFact.f k s rel args) (isFact s rel args) := by
  unfold impl_IsFact.f isFact
  refine Ev.bind (impl_takes s rel _ hs) ?_
  cases h : takes s rel args.length with
  | false => exact Ev.neg (by simp) (Ev.const rfl)
  | true => exact Ev.pos rfl (Ev.bind (values_ev args (by omega)) (Ev.const rfl))
theorem spec_vals (rel : Int) (l : List Int) (hl : l.length ≤ 1048576) : Ev (fun k => spec_IsFact.l0 k 0 rel l) (vals l) := by
  have loop : ∀ (d i : Nat), i + d = l.length → Ev (fun k => spec_IsFact.l0 k (i : Int) rel l) (vals (l.drop i)) := by
    intro d
    induction d with
    | zero =>
      intro i hi
      obtain rfl : i = l.length := by omega
      rw [List.drop_length]
      show Ev _ true
      exact Ev.step (fun k => by rw [spec_IsFact.l0]) (Ev.neg (by omega) (Ev.const rfl))
    | succ d ih =>
      intro i hi
      have hlt : i < l.length := by omega
      refine Ev.step (fun k => by rw [spec_IsFact.l0]) (Ev.pos (by omega) (Ev.pos (by omega) ?_))
      rw [rd_nat _ _ hlt, inc (by omega), drop_cons hlt, vals, all_cons]
      refine Ev.bindc (spec_in _ _ _) ?_
      cases h : inr l[i] 0 99 with
      | true => exact Ev.pos rfl (Ev.eq (ih (i + 1) (by omega)) rfl (by simp only [Bool.true_and]; rfl))
      | false => exact Ev.neg (by simp) (Ev.const rfl)
  exact Ev.eq (loop l.length 0 (by omega)) rfl (by simp)
theorem spec_isFact (s : List Int) (rel : Int) (args : List Int) (hs : s.length ≤ 1048576) (ha : args.length ≤ 1048576) : Ev (fun k => spec_IsFact.f k s rel args) (isFact s rel args) := by
  unfold spec_IsFact.f isFact takes
  refine Ev.bind (spec_schema s hs) ?_
  have out : Ev (fun k => spec_IsFact.j0 k true rel args) false := Ev.step (fun k => by rw [spec_IsFact.j0]) (Ev.pos rfl (Ev.const rfl))
  cases h : isSchema s with
  | false => exact Ev.neg (by simp) out
  | true =>
    refine Ev.pos rfl (Ev.bindc (spec_in _ _ _) ?_)
    rw [w64 (by omega) (by omega)]
    cases h2 : inr rel 0 (s.length - 1) with
    | false => exact Ev.neg (by simp) out
    | true =>
      have h2' : 0 ≤ rel ∧ rel ≤ s.length - 1 := by simpa only [inr, decide_eq_true_eq] using h2
      refine Ev.pos rfl (Ev.pos (by omega) (Ev.pos (by omega) (Ev.step (fun k => by rw [spec_IsFact.j0]) ?_)))
      by_cases h3 : rd s rel = args.length
      · refine Ev.neg (by simp; omega) (Ev.eq (spec_vals rel args ha) rfl ?_)
        rw [h3]; simp
      · refine Ev.pos (by simp; omega) (Ev.const ?_)
        have e : (rd s rel == (args.length : Int)) = false := by simpa using h3
        rw [e]; rfl
end Go.Proofs.Ytjiipeidginjnaa.PDb

namespace Go.Proofs.Ytjiipeidginjnaa.PParse
open Go.RowKit Go.Proofs.Ytjiipeidginjnaa.P Go.Proofs.YtjiipeidginjnaaW.PrintWords Go.Proofs.YtjiipeidginjnaaW.PrintLast Go.Proofs.Ytjiipeidginjnaa.PB Go.Proofs.Ytjiipeidginjnaa.PNum Go.Proofs.Ytjiipeidginjnaa.PJoin Go.Proofs.Ytjiipeidginjnaa.PIn Go.Proofs.Ytjiipeidginjnaa.PVals Go.Proofs.Ytjiipeidginjnaa.PSchema Go.Proofs.Ytjiipeidginjnaa.PFact Go.Proofs.Ytjiipeidginjnaa.PDb Go.Proofs.Ytjiipeidginjnaa.PPInt Go.Proofs.Ytjiipeidginjnaa.PCut
set_option linter.unusedVariables false

theorem cutL_app : ∀ (ds r cur : List Int), (ds.all dig) = true → cutL cur (ds ++ r) = cutL (cur ++ ds) r := by
  intro ds
  induction ds with
  | nil => intro r cur _; simp
  | cons c t ih =>
    intro r cur h
    simp only [List.all_cons, Bool.and_eq_true] at h
    have h1 := h.1
    simp only [dig, decide_eq_true_eq] at h1
    rw [List.cons_append, cutL, if_neg (by omega), ih r (cur ++ [c]) h.2, List.append_assoc]; rfl
theorem cut_jn : ∀ (r : List ByteArray) (cur : List Int), (∀ y ∈ r, (bl y).all dig = true) → cutL cur (bl (jn comma true ⟨#[]⟩ r)) = cur :: r.map bl := by
  intro r
  induction r with
  | nil => intro cur _; rfl
  | cons y r ih =>
    intro cur h
    have e : jn comma true ⟨#[]⟩ (y :: r) = comma ++ (y ++ jn comma true ⟨#[]⟩ r) := by
      show jn comma true ((⟨#[]⟩ ++ comma) ++ y) r = _
      rw [ba_nil, ← jn_pre, ← jn_pre, ba_nil']
    have ec : bl comma = [44] := rfl
    rw [e, bl_app, bl_app, ec]
    show cutL cur (44 :: (bl y ++ bl (jn comma true ⟨#[]⟩ r))) = _
    rw [cutL, if_pos rfl, cutL_app _ _ _ (h y (by simp)), List.nil_append, ih (bl y) (fun z hz => h z (by simp [hz])), List.map_cons]
theorem cut_nums (args : List Int) (hv : vals args = true) (h1 : 1 ≤ args.length) : cutB (nums_ args) = args.map fmt := by
  have hd : ∀ x ∈ args, (bl (fmt x)).all dig = true := by
    intro x hx
    have h := List.all_eq_true.1 hv x hx
    simp only [inr, decide_eq_true_eq] at h
    obtain ⟨ds, g1, g2, _⟩ := fmt_bl x (by omega)
    rw [g1, if_neg (by omega)]; simpa using g2
  cases args with
  | nil => simp at h1
  | cons x r =>
    have e : nums_ (x :: r) = fmt x ++ jn comma true ⟨#[]⟩ (r.map fmt) := by
      show jn comma true (⟨#[]⟩ ++ fmt x) (r.map fmt) = _
      rw [ba_nil, ← jn_pre, ba_nil']
    unfold cutB
    rw [e, bl_app, cutL_app _ _ _ (hd x (by simp)), List.nil_append, cut_jn]
    · rw [List.map_cons, List.map_cons, un_bl, List.map_map, List.map_map]
      congr 1
      exact List.map_congr_left fun y _ => un_bl (fmt y)
    · intro y hy
      obtain ⟨z, hz, rfl⟩ := List.mem_map.1 hy
      exact hd z (by simp [hz])
def relOf (t : ByteArray) : Int := (pI (t.extract 1 2)).1
def innerOf (t : ByteArray) : ByteArray := t.extract 3 (t.size - 1)
def argsOf (t : ByteArray) : List Int := (cutB (innerOf t)).map fun p => (pI p).1
def pF (s : List Int) (t : ByteArray) : Int × List Int × Bool := if (isFact s (relOf t) (argsOf t) && decide (factB (relOf t) (argsOf t) = t)) = true then (relOf t, argsOf t, true) else (0, [], false)
theorem pI_fmt (x : Int) (h : 0 ≤ x ∧ x ≤ 99) : pI (fmt x) = (x, true) := by
  have := isNum_fmt x (by omega)
  unfold pI; rw [if_pos this.1, this.2]
theorem rel_bl (rel : Int) (h : 0 ≤ rel ∧ rel ≤ 3) : bl (fmt rel) = [48 + rel] := by
  by_cases h0 : rel = 0
  · subst h0; rfl
  · have g := revd_ok 1 20 rel (by omega) (by omega) (by omega)
    have gn : 1 ≤ (revd 20 rel).length := revd_ne 19 rel h0
    have g1 := g.1
    obtain ⟨c, hc⟩ : ∃ c, (revd 20 rel).reverse = [c] := List.length_eq_one_iff.1 (by rw [List.length_reverse]; omega)
    have g3 := g.2.2; have g2 := g.2.1
    rw [hc] at g3 g2
    simp only [fold10, List.all_cons, List.all_nil, Bool.and_true, dig, decide_eq_true_eq] at g3 g2
    rw [fmt, if_neg h0, if_neg (by omega), ba_nil, hc, bl_nums]
    · congr 1; omega
    · intro x hx; simp only [List.mem_singleton] at hx; subst hx; omega
theorem parts (rel : Int) (args : List Int) (t : ByteArray) (h : okFact rel args = true) (ht : factB rel args = t) :
    5 ≤ t.size ∧ bt t 0 = 114 ∧ bt t 2 = 40 ∧ bt t ((t.size - 1 : Nat) : Int) = 41 ∧ t.extract 1 2 = fmt rel ∧ cutB (innerOf t) = args.map fmt ∧ bl (innerOf t) ≠ [] := by
  have h' := h
  simp only [okFact, Bool.and_eq_true, inr, decide_eq_true_eq] at h'
  obtain ⟨h1, h2, h3⟩ := h'
  have hn : 1 ≤ args.length := by omega
  have hb : bl t = [114, 48 + rel, 40] ++ (bl (nums_ args) ++ [41]) := by
    rw [← ht, factB, if_pos h, bl_app, bl_app, bl_app, bl_app, rel_bl rel h1]
    rw [show bl rB = [114] from rfl, show bl openB = [40] from rfl, show bl closeB = [41] from rfl]
    simp
  have hin : bl (nums_ args) ≠ [] := by
    cases args with
    | nil => simp at hn
    | cons x r =>
      have hx := List.all_eq_true.1 h3 x (by simp)
      simp only [inr, decide_eq_true_eq] at hx
      obtain ⟨ds, g1, g2, g3, _⟩ := fmt_bl x (by omega)
      intro e
      have e2 : (bl (nums_ (x :: r))).length = 0 := by rw [e]; rfl
      have e3 : nums_ (x :: r) = fmt x ++ jn comma true ⟨#[]⟩ (r.map fmt) := by
        show jn comma true (⟨#[]⟩ ++ fmt x) (r.map fmt) = _
        rw [ba_nil, ← jn_pre, ba_nil']
      rw [e3, bl_app, g1, if_neg (by omega)] at e2
      simp only [List.length_append, List.length_nil] at e2; omega
  have hz : t.size = 3 + (bl (nums_ args)).length + 1 := by rw [← bl_len, hb]; simp; omega
  have hp : 0 < (bl (nums_ args)).length := List.length_pos_iff.2 hin
  have hi : innerOf t = nums_ args := by
    apply bl_inj
    unfold innerOf
    rw [bl_ext, hb, hz]
    show ((bl (nums_ args) ++ [41]).take _) = _
    rw [show 3 + (bl (nums_ args)).length + 1 - 1 - 3 = (bl (nums_ args)).length by omega, List.take_left']; rfl
  refine ⟨by omega, ?_, ?_, ?_, ?_, ?_, ?_⟩
  · rw [show (0 : Int) = ((0 : Nat) : Int) from rfl, bt_bl t 0 (by omega)]; simp [hb]
  · rw [show (2 : Int) = ((2 : Nat) : Int) from rfl, bt_bl t 2 (by omega)]; simp [hb]
  · rw [bt_bl t (t.size - 1) (by omega)]
    simp only [hb]
    rw [List.getElem_append_right (by simp; omega), List.getElem_append_right (by simp; omega)]
    simp
  · apply bl_inj
    rw [bl_ext, hb, rel_bl rel h1]; rfl
  · rw [hi]; exact cut_nums args h3 hn
  · rw [hi]; exact hin
end Go.Proofs.Ytjiipeidginjnaa.PParse

namespace Go.Proofs.Ytjiipeidginjnaa.PPCh
open Go.RowKit Go.Proofs.Ytjiipeidginjnaa.P Go.Proofs.YtjiipeidginjnaaW.PrintWords Go.Proofs.YtjiipeidginjnaaW.PrintLast Go.Proofs.Ytjiipeidginjnaa.PB Go.Proofs.Ytjiipeidginjnaa.PNum Go.Proofs.Ytjiipeidginjnaa.PJoin Go.Proofs.Ytjiipeidginjnaa.PIn Go.Proofs.Ytjiipeidginjnaa.PVals Go.Proofs.Ytjiipeidginjnaa.PSchema Go.Proofs.Ytjiipeidginjnaa.PFact Go.Proofs.Ytjiipeidginjnaa.PDb Go.Proofs.Ytjiipeidginjnaa.PPInt Go.Proofs.Ytjiipeidginjnaa.PCut Go.Proofs.Ytjiipeidginjnaa.PParse
set_option linter.unusedVariables false

theorem tl0 : (⟨#[]⟩ : ByteArray).toList = ([] : List UInt8) := by simp [ByteArray.toList_eq]
theorem isFact_ok {s : List Int} {rel : Int} {args : List Int} (h : isFact s rel args = true) : okFact rel args = true := by
  simp only [isFact, takes, isSchema, Bool.and_eq_true, List.all_eq_true, inr, decide_eq_true_eq, beq_iff_eq] at h
  obtain ⟨⟨⟨h1, h2⟩, h3, h4⟩, h5⟩ := h
  have hlt : rel.toNat < s.length := by omega
  have hm := h1 _ (List.getElem_mem hlt)
  have e : rd s rel = s[rel.toNat] := by unfold rd; simp [List.getD_eq_getElem?_getD, hlt]
  simp only [okFact, inr, Bool.and_eq_true, decide_eq_true_eq]
  exact ⟨by omega, by rw [← h4, e]; omega, h5⟩
/-- What a fact's text looks like. -/
def Sh (t : ByteArray) : Prop := 5 ≤ t.size ∧ bt t 0 = 114 ∧ bt t 2 = 40 ∧ bt t ((t.size - 1 : Nat) : Int) = 41 ∧ (pI (t.extract 1 2)).2 = true ∧ bl (innerOf t) ≠ [] ∧ ∀ p ∈ cutB (innerOf t), (pI p).2 = true
theorem pF_no {s : List Int} {t : ByteArray} (h : ¬ Sh t) : pF s t = (0, [], false) := by
  unfold pF
  split
  · rename_i hh
    simp only [Bool.and_eq_true, decide_eq_true_eq] at hh
    have ok := isFact_ok hh.1
    obtain ⟨p1, p2, p3, p4, p5, p6, p7⟩ := parts _ _ t ok hh.2
    simp only [okFact, Bool.and_eq_true, inr, decide_eq_true_eq] at ok
    refine absurd ⟨p1, p2, p3, p4, ?_, p7, ?_⟩ h
    · rw [p5, pI_fmt _ (by omega)]
    · intro p hp
      rw [p6] at hp
      obtain ⟨x, hx, rfl⟩ := List.mem_map.1 hp
      have := List.all_eq_true.1 ok.2.2 x hx
      simp only [inr, decide_eq_true_eq] at this
      rw [pI_fmt _ this]
  · rfl
def spl (t : ByteArray) : Int × List ByteArray × Bool := if t.size < 4 ∨ bt t 0 ≠ 114 ∨ bt t 2 ≠ 40 ∨ bt t ((t.size - 1 : Nat) : Int) ≠ 41 then (0, [], false) else ((pI (t.extract 1 2)).1, (if (innerOf t).toList = [] then [] else cutB (innerOf t)), (pI (t.extract 1 2)).2)
theorem ext_size (t : ByteArray) (a b : Nat) (h : b ≤ t.size) : (t.extract a b).size = b - a := by
  rw [← bl_len, bl_ext, List.length_take, List.length_drop, bl_len]; omega
theorem hw1 {t : ByteArray} (h : 1 ≤ t.size) (ht : t.size ≤ 1048577) : wrap64 ((t.size : Int) - 1) = ((t.size - 1 : Nat) : Int) := by rw [w64 (by omega) (by omega)]; omega
theorem split_ev (t : ByteArray) (ht : t.size ≤ 1048577) : Ev (fun k => impl_split.f k t) (spl t) := by
  unfold impl_split.f
  have J1 : Ev (fun k => impl_split.j0 k t true) (0, [], false) := by
    refine Ev.step (fun k => by rw [impl_split.j0]) ?_
    exact Ev.pos rfl (Ev.const rfl)
  by_cases h1 : t.size < 4
  · refine Ev.pos (by omega) ?_; rw [spl, if_pos (.inl h1)]; exact J1
  refine Ev.neg (by omega) (Ev.pos (by omega) ?_)
  by_cases h2 : bt t 0 = 114
  rotate_left
  · refine Ev.neg h2 ?_; rw [spl, if_pos (.inr (.inl h2))]; exact J1
  refine Ev.pos h2 (Ev.pos (by omega) ?_)
  by_cases h3 : bt t 2 = 40
  rotate_left
  · refine Ev.neg h3 ?_; rw [spl, if_pos (.inr (.inr (.inl h3)))]; exact J1
  rw [hw1 (by omega) ht]
  refine Ev.pos h3 (Ev.pos (by omega) (Ev.pos (by omega) ?_))
  by_cases h4 : bt t ((t.size - 1 : Nat) : Int) = 41
  rotate_left
  · rw [show (bt t ((t.size - 1 : Nat) : Int) != 41) = true from bne_iff_ne.2 h4, spl, if_pos (.inr (.inr (.inr h4)))]; exact J1
  rw [show (bt t ((t.size - 1 : Nat) : Int) != 41) = false from bne_eq_false_iff_eq.2 h4, spl, if_neg (by simp only [h2, h3, h4, ne_eq, not_true_eq_false, or_false]; exact h1)]
  refine Ev.step (fun k => by rw [impl_split.j0]) ?_
  rw [hw1 (by omega) ht]
  refine Ev.neg (by simp) (Ev.pos (by omega) (Ev.pos (by omega) (Ev.bind (impl_int _ (by rw [ext_size _ _ _ (by omega)]; omega)) (Ev.pos (by omega) (Ev.pos (by omega) ?_)))))
  rw [Int.toNat_natCast]
  show Ev _ (_, (if (t.extract 3 (t.size - 1)).toList = [] then [] else cutB (t.extract 3 (t.size - 1))), _)
  by_cases h5 : (t.extract 3 (t.size - 1)).toList = []
  · rw [if_pos h5]; exact Ev.pos h5 (Ev.const rfl)
  · rw [if_neg h5]; exact Ev.neg h5 (Ev.bind (impl_cut_ev _ (by rw [ext_size _ _ _ (by omega)]; omega)) (Ev.const rfl))

theorem pI_bound (s : ByteArray) : -1000000000 < (pI s).1 ∧ (pI s).1 < 1000000000 := by
  unfold pI
  split
  · rename_i h
    simp only [isNum, Bool.and_eq_true, decide_eq_true_eq] at h
    obtain ⟨h1, h2, h3, _⟩ := h
    unfold numOf sgn at *
    by_cases hs : (bl s).head? = some 45
    · simp only [hs, if_true] at h1 h2 h3 ⊢
      have := fold10_bound _ 0 (by omega) h3
      have := pow9 h2
      omega
    · simp only [hs, if_false, List.drop_zero] at h1 h2 h3 ⊢
      have := fold10_bound _ 0 (by omega) h3
      have := pow9 h2
      simp only [Nat.zero_ne_one, if_false]
      omega
  · omega
theorem pI_wf (s : ByteArray) : (Lit.int .i64 (pI s).1).wf = true := wfOf (by have := pI_bound s; omega) (by have := pI_bound s; omega)
theorem cutL_mem : ∀ (l cur : List Int), ∀ y ∈ cutL cur l, y.length ≤ cur.length + l.length := by
  intro l
  induction l with
  | nil => intro cur y hy; rw [cutL, List.mem_singleton] at hy; subst hy; simp
  | cons c r ih =>
    intro cur y hy
    rw [cutL] at hy
    split at hy
    · rcases List.mem_cons.1 hy with rfl | hy
      · simp
      · have := ih [] y hy; simp only [List.length_nil, List.length_cons] at this ⊢; omega
    · have := ih _ y hy; simp only [List.length_append, List.length_cons, List.length_nil] at this ⊢; omega
theorem cutB_mem (s : ByteArray) : ∀ p ∈ cutB s, p.size ≤ s.size := by
  intro p hp
  obtain ⟨y, hy, rfl⟩ := List.mem_map.1 hp
  have := cutL_mem _ _ y hy
  rw [strOfNums_size]; rw [bl_len] at this; simpa using this
theorem cutB_len (s : ByteArray) : (cutB s).length ≤ s.size + 1 := by
  unfold cutB; rw [List.length_map]; have := cutL_len (bl s) []; rw [bl_len] at this; exact this
def fin_ (s : List Int) (t : ByteArray) (rel : Int) (args : List Int) : Int × List Int × Bool := if (isFact s rel args && decide (factB rel args = t)) = true then (rel, args, true) else (0, [], false)
theorem ifact_loop (s : List Int) (t : ByteArray) (rel : Int) (ps : List ByteArray) (hs : s.length ≤ 1048576) (hp : ps.length ≤ 1048576) (hz : ∀ p ∈ ps, p.size ≤ 1048577) (hr : (Lit.int .i64 rel).wf = true) : ∀ (d i : Nat) (acc : List Int), i + d = ps.length → acc.length = i → (∀ x ∈ acc, (Lit.int .i64 x).wf = true) →
    Ev (fun k => impl_ParseFact.l0 k t ps (ps.length : Int) (i : Int) s rel acc) (fin_ s t rel (acc ++ (ps.drop i).map fun p => (pI p).1)) := by
  intro d
  induction d with
  | zero =>
    intro i acc hi ha hw
    obtain rfl : i = ps.length := by omega
    rw [List.drop_length, List.map_nil, List.append_nil]
    refine Ev.step (fun k => by rw [impl_ParseFact.l0]) (Ev.neg (by omega) (Ev.bind (impl_isFact s rel acc hs (by omega)) ?_))
    unfold fin_
    cases h : isFact s rel acc with
    | false => exact Ev.neg (by simp) (Ev.const rfl)
    | true =>
      refine Ev.pos rfl (Ev.bind (impl_fact hr hw) ?_)
      by_cases h2 : factB rel acc = t
      · exact Ev.pos (list_eq.2 h2) (Ev.const (by simp [h2]))
      · exact Ev.neg (fun e => h2 (list_eq.1 e)) (Ev.const (by simp [h2]))
  | succ d ih =>
    intro i acc hi ha hw
    have hlt : i < ps.length := by omega
    refine Ev.step (fun k => by rw [impl_ParseFact.l0]) (Ev.pos (by omega) (Ev.pos (by omega) (Ev.pos (by omega) ?_)))
    rw [rdOf_nat _ _ _ hlt, inc (by omega)]
    refine Ev.bind (impl_int _ (hz _ (List.getElem_mem hlt))) (Ev.pos (by omega) ?_)
    refine Ev.eq (ih (i + 1) (acc ++ [(pI ps[i]).1]) (by omega) (by simp [ha]) (fun x hx => ?_)) rfl ?_
    · rcases List.mem_append.1 hx with hx | hx
      · exact hw x hx
      · rw [List.mem_singleton.1 hx]; exact pI_wf _
    · rw [drop_cons hlt, List.map_cons, List.append_assoc]; rfl
theorem impl_pF (s : List Int) (t : ByteArray) (hs : s.length ≤ 1048576) (ht : t.size ≤ 1048576) : Ev (fun k => impl_ParseFact.f k s t) (pF s t) := by
  unfold impl_ParseFact.f
  refine Ev.bind (split_ev t (by omega)) ?_
  by_cases h : t.size < 4 ∨ bt t 0 ≠ 114 ∨ bt t 2 ≠ 40 ∨ bt t ((t.size - 1 : Nat) : Int) ≠ 41
  · rw [spl, if_pos h, pF_no]
    · exact Ev.neg (by simp) (Ev.const rfl)
    · rintro ⟨q1, q2, q3, q4, _⟩
      rcases h with h | h | h | h
      · omega
      · exact h q2
      · exact h q3
      · exact h q4
  · rw [spl, if_neg h]
    by_cases h2 : (pI (t.extract 1 2)).2 = true
    · have hi : (innerOf t).size = t.size - 1 - 3 := ext_size _ _ _ (by omega)
      refine Ev.pos h2 ?_
      by_cases h3 : (innerOf t).toList = []
      · rw [pF_no]
        · simp only [if_pos h3]
          have h0 : Ev (fun k => impl_ParseFact.l0 k t [] (([] : List ByteArray).length : Int) 0 s (pI (t.extract 1 2)).1 []) (fin_ s t (pI (t.extract 1 2)).1 []) := ifact_loop s t _ [] hs (by simp) (by simp) (pI_wf _) 0 0 [] rfl rfl (by simp)
          refine Ev.eq h0 rfl ?_
          unfold fin_
          rw [if_neg]
          intro hh
          simp only [Bool.and_eq_true] at hh
          have := isFact_ok hh.1
          simp [okFact, inr] at this
        · rintro ⟨_, _, _, _, _, q6, _⟩
          apply q6
          have : innerOf t = ⟨#[]⟩ := list_eq.1 (by rw [h3, tl0])
          rw [this]; rfl
      · simp only [if_neg h3]
        have hl := cutB_len (innerOf t)
        have h0 : Ev (fun k => impl_ParseFact.l0 k t (cutB (innerOf t)) ((cutB (innerOf t)).length : Int) 0 s (pI (t.extract 1 2)).1 []) (fin_ s t (pI (t.extract 1 2)).1 (([] : List Int) ++ ((cutB (innerOf t)).drop 0).map fun p => (pI p).1)) :=
          ifact_loop s t _ _ hs (by omega) (fun p hp => by have := cutB_mem _ p hp; omega) (pI_wf _) (cutB (innerOf t)).length 0 [] (by omega) rfl (by simp)
        exact h0
    · rw [pF_no (fun q => h2 q.2.2.2.2.1)]
      exact Ev.neg h2 (Ev.const rfl)
def sval (p : ByteArray) : Int := if (pI p).2 = true then (pI p).1 else -1
theorem sval_wf (p : ByteArray) : (Lit.int .i64 (sval p)).wf = true := by
  unfold sval; split
  · exact pI_wf p
  · rfl
theorem sfact_loop2 (s : List Int) (t : ByteArray) (is : Bool) (rel : Int) (ps : List ByteArray) (hs : s.length ≤ 1048576) (hp : ps.length ≤ 1048576) (hz : ∀ p ∈ ps, p.size ≤ 1048577) (hr : (Lit.int .i64 rel).wf = true) : ∀ (d i : Nat) (acc : List Int), i + d = ps.length → acc.length = i → (∀ x ∈ acc, (Lit.int .i64 x).wf = true) →
    Ev (fun k => spec_ParseFact.l0 k t is ps (i : Int) s rel acc) (if is = true then fin_ s t rel (acc ++ (ps.drop i).map sval) else (0, [], false)) := by
  intro d
  induction d with
  | zero =>
    intro i acc hi ha hw
    obtain rfl : i = ps.length := by omega
    rw [List.drop_length, List.map_nil, List.append_nil]
    refine Ev.step (fun k => by rw [spec_ParseFact.l0]) (Ev.neg (by omega) ?_)
    by_cases his : is = true
    · rw [if_pos his]
      refine Ev.pos his (Ev.bind (spec_isFact s rel acc hs (by omega)) ?_)
      unfold fin_
      cases h : isFact s rel acc with
      | false => exact Ev.neg (by simp) (Ev.const rfl)
      | true =>
        refine Ev.pos rfl (Ev.bind (spec_fact hr hw) ?_)
        by_cases h2 : factB rel acc = t
        · exact Ev.pos (list_eq.2 h2) (Ev.const (by simp [h2]))
        · exact Ev.neg (fun e => h2 (list_eq.1 e)) (Ev.const (by simp [h2]))
    · rw [if_neg his]; exact Ev.neg his (Ev.const rfl)
  | succ d ih =>
    intro i acc hi ha hw
    have hlt : i < ps.length := by omega
    have step : Ev (fun k => spec_ParseFact.l0 k t is ps ((i + 1 : Nat) : Int) s rel (acc ++ [sval ps[i]])) (if is = true then fin_ s t rel (acc ++ (ps.drop i).map sval) else (0, [], false)) := by
      refine Ev.eq (ih (i + 1) (acc ++ [sval ps[i]]) (by omega) (by simp [ha]) (fun x hx => ?_)) rfl ?_
      · rcases List.mem_append.1 hx with hx | hx
        · exact hw x hx
        · rw [List.mem_singleton.1 hx]; exact sval_wf _
      · rw [drop_cons hlt, List.map_cons, List.append_assoc]; rfl
    refine Ev.step (fun k => by rw [spec_ParseFact.l0]) (Ev.pos (by omega) (Ev.pos (by omega) ?_))
    rw [rdOf_nat _ _ _ hlt, inc (by omega)]
    refine Ev.bind (spec_int _ (hz _ (List.getElem_mem hlt))) ?_
    unfold sval at step
    by_cases h2 : (pI ps[i]).2 = true
    · rw [if_pos h2] at step
      exact Ev.pos h2 (Ev.pos (by omega) step)
    · rw [if_neg h2] at step
      exact Ev.neg h2 (Ev.pos (by omega) step)
theorem spec_pF (s : List Int) (t : ByteArray) (hs : s.length ≤ 1048576) (ht : t.size ≤ 1048576) : Ev (fun k => spec_ParseFact.f k s t) (pF s t) := by
  unfold spec_ParseFact.f
  by_cases h1 : t.size < 5
  · rw [pF_no (fun q => by have := q.1; omega)]
    exact Ev.pos (by omega) (Ev.const rfl)
  rw [hw1 (by omega) (by omega), Int.toNat_natCast]
  refine Ev.neg (by omega) (Ev.pos (by omega) (Ev.pos (by omega) (Ev.bind (spec_int _ (by rw [ext_size _ _ _ (by omega)]; omega)) (Ev.pos (by omega) (Ev.pos (by omega) ?_)))))
  have hi : (innerOf t).size = t.size - 1 - 3 := ext_size _ _ _ (by omega)
  refine Ev.bind (a := cutB (innerOf t)) (spec_cut_ev _ (by unfold innerOf at hi; omega)) ?_
  have hl := cutB_len (innerOf t)
  have h0 : Ev (fun k => spec_ParseFact.l0 k t (pI (t.extract 1 2)).2 (cutB (innerOf t)) 0 s (pI (t.extract 1 2)).1 []) (if (pI (t.extract 1 2)).2 = true then fin_ s t (pI (t.extract 1 2)).1 (([] : List Int) ++ ((cutB (innerOf t)).drop 0).map sval) else (0, [], false)) :=
    sfact_loop2 s t _ _ _ hs (by omega) (fun p hp => by have := cutB_mem _ p hp; omega) (pI_wf _) (cutB (innerOf t)).length 0 [] (by omega) rfl (by simp)
  refine Ev.eq h0 rfl ?_
  by_cases h2 : (pI (t.extract 1 2)).2 = true
  · rw [if_pos h2, List.drop_zero, List.nil_append]
    by_cases h3 : ∀ p ∈ cutB (innerOf t), (pI p).2 = true
    · have e : (cutB (innerOf t)).map sval = argsOf t := List.map_congr_left fun p hp => by unfold sval; rw [if_pos (h3 p hp)]
      rw [e]; rfl
    · rw [pF_no (fun q => h3 q.2.2.2.2.2.2)]
      unfold fin_
      rw [if_neg]
      intro hh
      simp only [Bool.and_eq_true] at hh
      have ok := isFact_ok hh.1
      simp only [okFact, Bool.and_eq_true] at ok
      apply h3
      intro p hp
      have := List.all_eq_true.1 ok.2.2 (sval p) (List.mem_map_of_mem hp)
      by_cases h4 : (pI p).2 = true
      · exact h4
      · unfold sval at this; rw [if_neg h4] at this; simp [inr] at this
  · rw [if_neg h2, pF_no (fun q => h2 q.2.2.2.2.1)]

def changeB (b : Bool) (rel : Int) (args : List Int) : ByteArray := if (factB rel args).toList = ([] : List UInt8) then ⟨#[]⟩ else if b = true then (⟨#[43]⟩ : ByteArray) ++ factB rel args else (⟨#[45]⟩ : ByteArray) ++ factB rel args
theorem spec_change {b : Bool} {rel : Int} {args : List Int} (hr : (Lit.int .i64 rel).wf = true) (hw : ∀ x ∈ args, (Lit.int .i64 x).wf = true) : Ev (fun k => spec_FormatChange.f k b rel args) (changeB b rel args) := by
  have hs := fact_size rel args
  unfold spec_FormatChange.f changeB
  refine Ev.bind (spec_fact hr hw) ?_
  by_cases h : (factB rel args).toList = ([] : List UInt8)
  · simp only [if_pos h]; exact Ev.const rfl
  · simp only [if_neg h]
    cases b with
    | true => exact Ev.pos rfl (Ev.pos (by omega) (Ev.const rfl))
    | false => exact Ev.neg (by simp) (Ev.pos (by omega) (Ev.const rfl))
def pCh (s : List Int) (t : ByteArray) : Bool × Int × List Int × Bool := if (decide (bt t 0 = 43 ∨ bt t 0 = 45) && (decide (2 ≤ t.size) && (pF s (t.extract 1 t.size)).2.2)) = true then (bt t 0 == 43, (pF s (t.extract 1 t.size)).1, (pF s (t.extract 1 t.size)).2.1, true) else (false, 0, [], false)
theorem pF_size {s : List Int} {t : ByteArray} (h : (pF s t).2.2 = true) : Sh t ∧ isFact s (relOf t) (argsOf t) = true ∧ factB (relOf t) (argsOf t) = t ∧ pF s t = (relOf t, argsOf t, true) := by
  by_cases hh : Sh t
  · refine ⟨hh, ?_⟩
    unfold pF at h ⊢
    split at h
    · rename_i hq
      rw [if_pos hq]
      simp only [Bool.and_eq_true, decide_eq_true_eq] at hq
      exact ⟨hq.1, hq.2, rfl⟩
    · cases h
  · rw [pF_no hh] at h; cases h
theorem head_eq (t : ByteArray) (h : 1 ≤ t.size) (c : ByteArray) (n : Int) (hc : bl c = [n]) : c ++ t.extract 1 t.size = t ↔ bt t 0 = n := by
  have h0 : bt t ((0 : Nat) : Int) = (bl t)[0]'(by rw [bl_len]; omega) := bt_bl t 0 (by omega)
  have e : bl t = bt t 0 :: (bl t).drop 1 := by
    have hl : 0 < (bl t).length := by rw [bl_len]; omega
    rw [show bt t 0 = (bl t)[0]'hl from h0]
    have := List.drop_eq_getElem_cons hl
    rw [List.drop_zero] at this; exact this
  have e2 : bl (t.extract 1 t.size) = (bl t).drop 1 := by
    rw [bl_ext, List.take_of_length_le (by rw [List.length_drop, bl_len]; omega)]
  constructor
  · intro hh
    have := congrArg bl hh
    rw [bl_app, hc, e2, e] at this
    simp only [List.cons_append, List.nil_append] at this
    injection this with h1 _
    exact h1.symm
  · intro hh
    apply bl_inj
    rw [bl_app, hc, e2, ← hh]
    exact e.symm
theorem impl_pCh (s : List Int) (t : ByteArray) (hs : s.length ≤ 1048576) (ht : t.size ≤ 1048576) : Ev (fun k => impl_ParseChange.f k s t) (pCh s t) := by
  unfold impl_ParseChange.f
  have J1 : Ev (fun k => impl_ParseChange.j0 k t true s) (false, 0, [], false) := by
    refine Ev.step (fun k => by rw [impl_ParseChange.j0]) ?_
    exact Ev.pos rfl (Ev.const rfl)
  by_cases h1 : t.size = 0
  · have e : t = ⟨#[]⟩ := bl_inj (List.eq_nil_of_length_eq_zero (by rw [bl_len, h1]))
    have e2 : t.toList = ([] : List UInt8) := by rw [e, tl0]
    refine Ev.pos e2 ?_
    rw [pCh, if_neg (by simp [h1])]
    exact J1
  have e2 : ¬ t.toList = ([] : List UInt8) := fun e => h1 (by
    have : t = ⟨#[]⟩ := list_eq.1 (by rw [e, tl0])
    rw [this]; rfl)
  refine Ev.neg e2 (Ev.pos (by omega) ?_)
  have hx : (t.extract 1 t.size).size = t.size - 1 := ext_size _ _ _ (by omega)
  have J2 : (bt t 0 = 43 ∨ bt t 0 = 45) → Ev (fun k => impl_ParseChange.j0 k t false s) (pCh s t) := by
    intro hb
    refine Ev.step (fun k => by rw [impl_ParseChange.j0]) (Ev.neg (by simp) (Ev.pos (by omega) (Ev.bind (impl_pF s _ hs (by omega)) ?_)))
    by_cases h : (pF s (t.extract 1 t.size)).2.2 = true
    · have := (pF_size h).1.1
      have e : pCh s t = (bt t 0 == 43, (pF s (t.extract 1 t.size)).1, (pF s (t.extract 1 t.size)).2.1, true) := by
        unfold pCh; rw [if_pos (by rw [h]; simp only [hb, decide_true, Bool.true_and, Bool.and_true, decide_eq_true_eq]; omega)]
      rw [e]
      exact Ev.pos h (Ev.pos (by omega) (Ev.const rfl))
    · have e : pCh s t = (false, 0, [], false) := by unfold pCh; rw [if_neg (by simp [h])]
      rw [e]
      exact Ev.neg h (Ev.const rfl)
  by_cases h43 : bt t 0 = 43
  · exact Ev.pos h43 (J2 (.inl h43))
  · refine Ev.neg h43 ?_
    by_cases h45 : bt t 0 = 45
    · rw [show (bt t 0 != 45) = false from bne_eq_false_iff_eq.2 h45]; exact J2 (.inr h45)
    · rw [show (bt t 0 != 45) = true from bne_iff_ne.2 h45, pCh, if_neg (by simp [h43, h45])]; exact J1
theorem spec_pCh (s : List Int) (t : ByteArray) (hs : s.length ≤ 1048576) (ht : t.size ≤ 1048576) : Ev (fun k => spec_ParseChange.f k s t) (pCh s t) := by
  unfold spec_ParseChange.f
  by_cases h1 : t.size < 2
  · rw [pCh, if_neg (by simp; omega)]
    exact Ev.pos (by omega) (Ev.const rfl)
  have hx : (t.extract 1 t.size).size = t.size - 1 := ext_size _ _ _ (by omega)
  refine Ev.neg (by omega) (Ev.pos (by omega) (Ev.bind (spec_pF s _ hs (by omega)) (Ev.pos (by omega) ?_)))
  by_cases h : (pF s (t.extract 1 t.size)).2.2 = true
  · obtain ⟨q1, q2, q3, q4⟩ := pF_size h
    rw [q4]
    dsimp only
    generalize hrel : relOf (t.extract 1 t.size) = rel at *
    generalize harg : argsOf (t.extract 1 t.size) = args at *
    have hwr : (Lit.int .i64 rel).wf = true := by rw [← hrel]; exact pI_wf _
    have hwa : ∀ x ∈ args, (Lit.int .i64 x).wf = true := by
      intro x hx
      rw [← harg] at hx
      obtain ⟨p, _, rfl⟩ := List.mem_map.1 hx
      exact pI_wf p
    have hsc := spec_change (b := (bt t 0 == 43)) hwr hwa
    refine Ev.pos (c := true = true) rfl ?_
    refine Ev.bind hsc ?_
    have ne : ¬ (factB rel args).toList = ([] : List UInt8) := by
      rw [q3]; intro e
      have : t.extract 1 t.size = ⟨#[]⟩ := list_eq.1 (by rw [e, tl0])
      have h5 := q1.1
      rw [this] at h5
      have h0 : (⟨#[]⟩ : ByteArray).size = 0 := rfl
      rw [h0] at h5
      omega
    have ec : ∀ b, changeB b rel args = if b = true then (⟨#[43]⟩ : ByteArray) ++ t.extract 1 t.size else (⟨#[45]⟩ : ByteArray) ++ t.extract 1 t.size := by
      intro b; unfold changeB; rw [if_neg ne, q3]
    have ep : pCh s t = if bt t 0 = 43 ∨ bt t 0 = 45 then (bt t 0 == 43, rel, args, true) else (false, 0, [], false) := by
      unfold pCh
      by_cases hb : bt t 0 = 43 ∨ bt t 0 = 45
      · rw [if_pos hb, if_pos (by rw [h]; simp only [hb, decide_true, Bool.true_and, Bool.and_true, decide_eq_true_eq]; omega), q4]
      · rw [if_neg hb, if_neg (by simp only [hb, decide_false, Bool.false_and]; simp)]
    by_cases h43 : bt t 0 = 43
    · have e : (bt t 0 == 43) = true := by rw [h43]; rfl
      have e2 : pCh s t = (bt t 0 == 43, rel, args, true) := by rw [ep, if_pos (.inl h43)]
      have e3 : changeB (bt t 0 == 43) rel args = (⟨#[43]⟩ : ByteArray) ++ t.extract 1 t.size := by rw [ec, if_pos e]
      rw [e2, e3]
      exact Ev.pos (list_eq.2 ((head_eq t (by omega) (⟨#[43]⟩ : ByteArray) 43 rfl).2 h43)) (Ev.const rfl)
    · have e : ¬ (bt t 0 == 43) = true := by simp [h43]
      have e3 : changeB (bt t 0 == 43) rel args = (⟨#[45]⟩ : ByteArray) ++ t.extract 1 t.size := by rw [ec, if_neg e]
      rw [e3]
      by_cases h45 : bt t 0 = 45
      · have e2 : pCh s t = (bt t 0 == 43, rel, args, true) := by rw [ep, if_pos (.inr h45)]
        rw [e2]
        exact Ev.pos (list_eq.2 ((head_eq t (by omega) (⟨#[45]⟩ : ByteArray) 45 rfl).2 h45)) (Ev.const rfl)
      · have e2 : pCh s t = (false, 0, [], false) := by rw [ep, if_neg (by simp [h43, h45])]
        rw [e2]
        exact Ev.neg (fun e => h45 ((head_eq t (by omega) (⟨#[45]⟩ : ByteArray) 45 rfl).1 (list_eq.1 e))) (Ev.const rfl)
  · have e : pCh s t = (false, 0, [], false) := by unfold pCh; rw [if_neg (by simp [h])]
    rw [e]
    exact Ev.neg h (Ev.const rfl)
end Go.Proofs.Ytjiipeidginjnaa.PPCh

namespace Go.Proofs.Ytjiipeidginjnaa.PMark
open Go.RowKit Go.Proofs.Ytjiipeidginjnaa.P Go.Proofs.YtjiipeidginjnaaW.PrintWords Go.Proofs.YtjiipeidginjnaaW.PrintLast Go.Proofs.Ytjiipeidginjnaa.PB
set_option linter.unusedVariables false
/-- The marked row. -/
def ml (a : Int) (l : List Int) : List Int := (List.range l.length).map fun j => a + ((j : Nat) : Int)
theorem ml_len (a : Int) (l : List Int) : (ml a l).length = l.length := by simp [ml]
theorem ml_at (a : Int) (l : List Int) (i : Nat) (h : i < (ml a l).length) : (ml a l)[i] = a + (i : Int) := by simp [ml]
theorem ml_step (a : Int) (l : List Int) (i : Nat) (h : i < l.length) : ((ml a l).take i ++ l.drop i).set i (a + (i : Int)) = (ml a l).take (i + 1) ++ l.drop (i + 1) := by
  have h' : i < (ml a l).length := by rw [ml_len]; exact h
  have e : ((ml a l).take i).length = i := by rw [List.length_take, ml_len]; omega
  rw [List.set_append_right _ _ (by omega), e, Nat.sub_self, List.drop_eq_getElem_cons h, List.set_cons_zero, take_snoc h', ml_at, List.append_assoc]; rfl
theorem mark_loop (a : Int) (l : List Int) (h0 : 0 ≤ a) (h1 : a + l.length ≤ 4611686018427387000) : ∀ (d i : Nat), i + d = l.length →
    Ev (fun k => laws_markIntS.l0 k ((ml a l).take i ++ l.drop i) (a + (i : Int)) (i : Int)) (a + l.length, ml a l) := by
  intro d
  induction d with
  | zero =>
    intro i hi
    obtain rfl : i = l.length := by omega
    have e : (ml a l).take l.length ++ l.drop l.length = ml a l := by rw [List.drop_length, List.append_nil, List.take_of_length_le (by rw [ml_len]; exact Nat.le_refl _)]
    rw [e]
    have := ml_len a l
    exact Ev.step (fun k => by rw [laws_markIntS.l0]) (Ev.neg (by omega) (Ev.const rfl))
  | succ d ih =>
    intro i hi
    have hlt : i < l.length := by omega
    have hl : ((ml a l).take i ++ l.drop i).length = l.length := by rw [List.length_append, List.length_take, ml_len, List.length_drop]; omega
    refine Ev.step (fun k => by rw [laws_markIntS.l0]) ?_
    refine Ev.pos (by omega) (Ev.pos (by omega) ?_)
    rw [inc (by omega), w64 (by omega) (by omega), Int.toNat_natCast, ml_step a l i hlt]
    exact Ev.eq (ih (i + 1) (by omega)) (by funext k; congr 1; omega) rfl
theorem mark_ev (a : Int) (l : List Int) (h0 : 0 ≤ a) (h1 : a + l.length ≤ 4611686018427387000) : Ev (fun k => laws_markIntS.f k l a) (a + l.length, ml a l) := by
  have h := mark_loop a l h0 h1 l.length 0 (by omega)
  refine Ev.eq h ?_ rfl
  funext k
  rw [laws_markIntS.f, List.take_zero, List.drop_zero, List.nil_append]
  congr 1; omega
theorem held_ev (a : Int) (l : List Int) (h0 : 0 ≤ a) (h1 : a + l.length ≤ 4611686018427387000) : Ev (fun k => laws_heldIntS.f k (ml a l) a) (a + l.length) := by
  have loop : ∀ (d i : Nat), i + d = l.length → Ev (fun k => laws_heldIntS.l0 k (ml a l) (a + (i : Int)) (i : Int)) (a + l.length) := by
    intro d
    induction d with
    | zero =>
      intro i hi
      obtain rfl : i = l.length := by omega
      have := ml_len a l
      exact Ev.step (fun k => by rw [laws_heldIntS.l0]) (Ev.neg (by omega) (Ev.const rfl))
    | succ d ih =>
      intro i hi
      have hlt : i < (ml a l).length := by rw [ml_len]; omega
      have hm := ml_len a l
      refine Ev.step (fun k => by rw [laws_heldIntS.l0]) ?_
      refine Ev.pos (by omega) (Ev.pos (by omega) ?_)
      rw [rd_nat _ _ hlt, ml_at]
      refine Ev.pos rfl ?_
      rw [inc (by omega), w64 (by omega) (by omega)]
      exact Ev.eq (ih (i + 1) (by omega)) (by funext k; congr 1; omega) rfl
  refine Ev.eq (loop l.length 0 (by omega)) ?_ rfl
  funext k
  rw [laws_heldIntS.f]
  congr 1; omega
end Go.Proofs.Ytjiipeidginjnaa.PMark

namespace Go.Proofs.Ytjiipeidginjnaa.PLaw
open Go.RowKit Go.Proofs.Ytjiipeidginjnaa.P Go.Proofs.YtjiipeidginjnaaW.PrintWords Go.Proofs.YtjiipeidginjnaaW.PrintLast Go.Proofs.Ytjiipeidginjnaa.PB
set_option linter.unusedVariables false

def qIntS (l : List Int) : Prop := l.length ≤ 9223372036854775807 ∧ ∀ x ∈ l, (Lit.int .i64 x).wf = true
def nIntS (l : List Int) : Nat := l.length
def cIntS (l : List Int) : List Int := l
theorem szIntS (l : List Int) (a : Int) (h0 : 0 ≤ a) (h1 : a ≤ 1048576) (hl : qIntS l) : Ev (fun k => laws_szIntS.f l a) (if a < nIntS l then -1 else a - nIntS l) := by
  have hl1 := hl.1
  refine Ev.const ?_
  unfold laws_szIntS.f nIntS
  rw [w64 (by omega) (by omega)]
  by_cases h : a < l.length
  · rw [if_pos (by omega), if_pos h]
  · rw [if_neg (by omega), if_neg h]
theorem toIntS_loop (l : List Int) (hn : nIntS l ≤ 1048576) : ∀ (d i : Nat), i + d = l.length → Ev (fun k => laws_toIntS.l0 k l (cIntS (l.take i) ++ List.replicate d 0) (i : Int)) (cIntS l) := by
  have hlen : l.length ≤ 1048576 := by unfold nIntS at hn; omega
  intro d
  induction d with
  | zero =>
    intro i hi
    obtain rfl : i = l.length := by omega
    refine Ev.step (fun k => by rw [laws_toIntS.l0]) (Ev.neg (by omega) (Ev.const ?_))
    simp
  | succ d ih =>
    intro i hi
    have hlt : i < l.length := by omega
    refine Ev.step (fun k => by rw [laws_toIntS.l0]) (Ev.pos (by omega) (Ev.pos (by omega) ?_))
    rw [rd_nat _ _ hlt, inc (by omega)]
    refine Ev.pos (by simp [cIntS]; omega) ?_
    refine Ev.eq (ih (i + 1) (by omega)) ?_ rfl
    funext k
    have e : ((i : Int)).toNat = i := by omega
    have el : (cIntS (l.take i)).length = i := by simp [cIntS]; omega
    rw [e, fill_set' _ _ _ _ _ el, take_snoc hlt]
    try rfl
theorem toIntS (l : List Int) (hn : nIntS l ≤ 1048576) : Ev (fun k => laws_toIntS.f k l) (cIntS l) := by
  have h := toIntS_loop l hn l.length 0 (by omega)
  have hlen : l.length ≤ 1048576 := by unfold nIntS at hn; omega
  refine Ev.eq (Ev.pos (c := 0 ≤ (l.length : Int)) (g := fun _ => none) (by omega) (Ev.pos (c := ((l.length : Int) : Int).toNat ≤ 35184372088832) (g := fun _ => none) (by omega) h)) ?_ rfl
  funext k
  rw [laws_toIntS.f]; simp [cIntS]
theorem eqIntS_loop (l : List Int) (hl : l.length ≤ 4611686018427387000) : ∀ (d i : Nat), i + d = l.length → Ev (fun k => laws_eqIntS.l0 k l l (i : Int)) true := by
  intro d
  induction d with
  | zero =>
    intro i hi
    exact Ev.step (fun k => by rw [laws_eqIntS.l0]) (Ev.neg (by omega) (Ev.const rfl))
  | succ d ih =>
    intro i hi
    have hlt : i < l.length := by omega
    refine Ev.step (fun k => by rw [laws_eqIntS.l0]) (Ev.pos (by omega) (Ev.pos (by omega) (Ev.pos (by omega) (Ev.pos rfl ?_))))
    rw [inc (by omega)]
    exact ih (i + 1) (by omega)
theorem eqIntS (l : List Int) (hm : l.length ≤ 4611686018427387000) : Ev (fun k => laws_eqIntS.f k l l) true :=
  Ev.eq (Ev.pos (c := (l.length : Int) = l.length) (g := fun _ => some false) rfl (eqIntS_loop l hm l.length 0 (by omega))) (by funext k; rw [laws_eqIntS.f]; rfl) rfl
theorem mcIntS {l : List Int} (hn : nIntS l ≤ 1048576) : (cIntS l).length ≤ 4611686018427387000 := by unfold nIntS at hn; show l.length ≤ _; omega
end Go.Proofs.Ytjiipeidginjnaa.PLaw

namespace Go.Proofs.Ytjiipeidginjnaa.PLaw
open Go.RowKit Go.Proofs.Ytjiipeidginjnaa.P Go.Proofs.YtjiipeidginjnaaW.PrintWords Go.Proofs.YtjiipeidginjnaaW.PrintLast Go.Proofs.Ytjiipeidginjnaa.PB
set_option linter.unusedVariables false

theorem szSchema (x0 : List Int) (a : Int) (h0 : 0 ≤ a) (h1 : a ≤ 1048576) (qx0_ : qIntS x0) : Ev (fun k => laws_szSchema.f x0 a) (if a < ((nIntS x0 : Nat) : Int) then -1 else a - ((nIntS x0 : Nat) : Int)) := by
  unfold laws_szSchema.f
  have g0 : a ≤ 1048576 := by first | omega | exact h1
  refine Ev.bind (szIntS x0 a (by omega) (by omega) qx0_) ?_
  by_cases c0 : a < ((nIntS x0 : Nat) : Int)
  · rw [if_pos c0]
    exact Ev.pos (by omega) (Ev.const (by first | rfl | rw [if_pos (by omega)]))
  rw [if_neg c0]
  refine Ev.neg (by omega) ?_
  have e0 : a - ((nIntS x0 : Nat) : Int) = (a - ((nIntS x0 : Nat) : Int)) := by omega
  rw [e0]
  exact Ev.const (by first | rfl | rw [if_neg (by omega)])
theorem toSchema (x0 : List Int) (hn : nIntS x0 ≤ 1048576) : Ev (fun k => laws_toSchema.f k x0) (cIntS x0) := by
  unfold laws_toSchema.f
  refine Ev.bind (toIntS x0 (by omega)) ?_
  exact Ev.const rfl
theorem eqSchema (x0 : List Int) (mx0_ : x0.length ≤ 4611686018427387000) : Ev (fun k => laws_eqSchema.f k x0 x0) true := by
  unfold laws_eqSchema.f
  refine Ev.bind (eqIntS x0 mx0_) (Ev.pos rfl ?_)
  exact Ev.const rfl
end Go.Proofs.Ytjiipeidginjnaa.PLaw

namespace Go.Proofs.Ytjiipeidginjnaa.PLaw
open Go.RowKit Go.Proofs.Ytjiipeidginjnaa.P Go.Proofs.YtjiipeidginjnaaW.PrintWords Go.Proofs.YtjiipeidginjnaaW.PrintLast Go.Proofs.Ytjiipeidginjnaa.PB
set_option linter.unusedVariables false

theorem eqFact (x0 : Int) (x1 : List Int) (mx1_ : x1.length ≤ 4611686018427387000) : Ev (fun k => laws_eqFact.f k x0 x1 x0 x1) true := by
  unfold laws_eqFact.f
  first | refine Ev.pos rfl ?_ | skip
  refine Ev.bind (eqIntS x1 mx1_) (Ev.pos rfl ?_)
  exact Ev.const rfl
end Go.Proofs.Ytjiipeidginjnaa.PLaw

namespace Go.Proofs.Ytjiipeidginjnaa.PLaw
open Go.RowKit Go.Proofs.Ytjiipeidginjnaa.P Go.Proofs.YtjiipeidginjnaaW.PrintWords Go.Proofs.YtjiipeidginjnaaW.PrintLast Go.Proofs.Ytjiipeidginjnaa.PB
set_option linter.unusedVariables false

theorem eqChange (x0 : Bool) (x1 : Int) (x2 : List Int) (mx2_ : x2.length ≤ 4611686018427387000) : Ev (fun k => laws_eqChange.f k x0 x1 x2 x0 x1 x2) true := by
  unfold laws_eqChange.f
  refine Ev.neg (by simp) ?_
  refine Ev.bind (eqFact x1 x2 mx2_) (Ev.pos rfl ?_)
  exact Ev.const rfl
end Go.Proofs.Ytjiipeidginjnaa.PLaw

namespace Go.Proofs.Ytjiipeidginjnaa.Pure
open Go.RowKit Go.Proofs.Ytjiipeidginjnaa.P Go.Proofs.YtjiipeidginjnaaW.PrintWords Go.Proofs.YtjiipeidginjnaaW.PrintLast Go.Proofs.Ytjiipeidginjnaa.PB Go.Proofs.Ytjiipeidginjnaa.PLaw Go.Proofs.Ytjiipeidginjnaa.PPInt Go.Proofs.Ytjiipeidginjnaa.PCut Go.Proofs.Ytjiipeidginjnaa.PParse Go.Proofs.Ytjiipeidginjnaa.PPCh Go.Proofs.Ytjiipeidginjnaa.PMark Go.Proofs.Ytjiipeidginjnaa.PDb Go.Proofs.Ytjiipeidginjnaa.PFact Go.Proofs.Ytjiipeidginjnaa.PIn
set_option linter.unusedVariables false
theorem pCh_len (s : List Int) (t : ByteArray) : (pCh s t).2.2.1.length ≤ 1048576 := by
  unfold pCh
  by_cases h : (decide (bt t 0 = 43 ∨ bt t 0 = 45) && (decide (2 ≤ t.size) && (pF s (t.extract 1 t.size)).2.2)) = true
  · rw [if_pos h]
    simp only [Bool.and_eq_true] at h
    obtain ⟨_, q2, _, q4⟩ := pF_size h.2.2
    have ok := isFact_ok q2
    rw [q4]
    simp only [okFact, Bool.and_eq_true, inr, decide_eq_true_eq] at ok
    dsimp only
    omega
  · rw [if_neg h]; exact Nat.zero_le _
theorem FnExactParseChange : ∀ (z0_0 : List Int) (a1 : ByteArray), (qIntS z0_0) → (a1.size ≤ maxLen) → ∃ k, laws_FnExactParseChange.f k z0_0 a1 = some true := by
  intro l t hq hm
  apply Ev.rounds
  unfold laws_FnExactParseChange.f
  by_cases c0 : ((t.size : Nat) : Int) > 1048576
  · exact Ev.pos c0 (Ev.const rfl)
  refine Ev.neg c0 ?_
  have hz := szSchema l 1048576 (by omega) (by omega) hq
  by_cases h : (1048576 : Int) < ((nIntS l : Nat) : Int)
  · rw [if_pos h] at hz
    exact Ev.bind hz (Ev.pos (by omega) (Ev.const rfl))
  rw [if_neg h] at hz
  have hn : nIntS l ≤ 1048576 := by omega
  have hs : (cIntS l).length ≤ 1048576 := hn
  have ht := toSchema l hn
  have hs1 := spec_pCh (cIntS l) t hs (by omega)
  have hs2 := impl_pCh (cIntS l) t hs (by omega)
  have hl := pCh_len (cIntS l) t
  generalize hR : pCh (cIntS l) t = R at *
  have he := eqChange R.1 R.2.1 R.2.2.1 (by omega)
  have hes := eqSchema (cIntS l) (mcIntS hn)
  have hms : Ev (fun k => laws_markSchema.f k (cIntS l) 1) (1 + ((cIntS l).length : Int), ml 1 (cIntS l)) := by
    unfold laws_markSchema.f
    exact Ev.bind (mark_ev 1 (cIntS l) (by omega) (by omega)) (Ev.const rfl)
  have hmc : Ev (fun k => laws_markChange.f k R.1 R.2.1 R.2.2.1 1) (1 + (R.2.2.1.length : Int), ml 1 R.2.2.1) := by
    unfold laws_markChange.f laws_markFact.f
    exact Ev.bind (Ev.bind (mark_ev 1 _ (by omega) (by omega)) (Ev.const rfl)) (Ev.const rfl)
  have hh : Ev (fun k => laws_heldChange.f k R.1 R.2.1 (ml 1 R.2.2.1) 1) (1 + (R.2.2.1.length : Int)) := by
    unfold laws_heldChange.f laws_heldFact.f
    exact Ev.bind (Ev.bind (held_ev 1 _ (by omega) (by omega)) (Ev.neg (by omega) (Ev.const rfl))) (Ev.neg (by omega) (Ev.const rfl))
  refine Ev.bind hz (Ev.neg (by omega) (Ev.bind ht (Ev.bind hs1 (Ev.bind ht (Ev.bind hs2 (Ev.bind he (Ev.pos rfl ?_)))))))
  rw [show (R.2.2.2 != R.2.2.2) = false by simp]
  refine Ev.step (fun k => by rw [laws_FnExactParseChange.j0]) ?_
  refine Ev.neg (by simp) (Ev.bind ht (Ev.bind hes (Ev.pos rfl (Ev.bind hms (Ev.neg (by omega) (Ev.bind he (Ev.pos rfl ?_)))))))
  rw [show (R.2.2.2 != R.2.2.2) = false by simp]
  refine Ev.step (fun k => by rw [laws_FnExactParseChange.j1]) ?_
  refine Ev.neg (by simp) (Ev.bind hmc (Ev.bind hh (Ev.neg (by omega) (Ev.pos rfl (Ev.bind ht (Ev.bind hs2 (Ev.bind he (Ev.pos rfl ?_))))))))
  rw [show (R.2.2.2 != R.2.2.2) = false by simp]
  refine Ev.step (fun k => by rw [laws_FnExactParseChange.j2]) ?_
  exact Ev.neg (by simp) (Ev.bind hh (Ev.neg (by omega) (Ev.pos rfl (Ev.const rfl))))
end Go.Proofs.Ytjiipeidginjnaa.Pure

namespace Go.Proofs.Ytjiipeidginjnaa.Opens
open Go.RowKit Go.Proofs.YtjiipeidginjnaaW.PrintWords Go.Deep Go.ChangeShapes Go.WideShapes
set_option linter.unusedVariables false

/-- Whatever reads as data of type t is of kind d, and Q holds of it. -/
def Rdd {α : Type} (P : Program) (w : World) (t : TypeId) (d : Kd α) (Q : α → Prop) : Prop :=
  ∀ (H : Type) (enc : TypeId × Value → H) (fuel : Nat) (cs : List Value) (x : DataW H × List MemPlace),
    DataW.trod enc P w 0 (fun _ => true) true fuel t cs = some x → ∃ a, d.K w a cs ∧ Q a

variable {α β γ δ : Type} {P : Program} {w : World} {t e : TypeId}

theorem op_int {k : IntKind} (ht : P.underlying t = some (.int k)) : Rdd P w t (Kd.int k) (fun n => (Lit.int k n).wf = true) := by
  intro H enc fuel cs x h
  obtain ⟨n, rfl, _, hw⟩ := DataW.trod_int ht h
  exact ⟨n, rfl, hw⟩
theorem op_string (ht : P.underlying t = some .string) : Rdd P w t Kd.string (fun s => s.size ≤ maxLen) := by
  intro H enc fuel cs x h
  obtain ⟨s, rfl, _, hs⟩ := DataW.trod_string ht h
  exact ⟨s, rfl, hs⟩
theorem op_mono {d : Kd α} {Q Q' : α → Prop} (h : Rdd P w t d Q) (hq : ∀ a, Q a → Q' a) : Rdd P w t d Q' := by
  intro H enc fuel cs x hx
  obtain ⟨a, hk, hQ⟩ := h H enc fuel cs x hx
  exact ⟨a, hk, hq a hQ⟩
theorem op_slice {d : Kd α} {Q : α → Prop} (ht : P.underlying t = some (.slice e)) (hc : P.cellsOf e = d.sz) (hd : Rdd P w e d Q) :
    Rdd P w t (Kd.slice e d) (fun xs => xs.length ≤ 9223372036854775807 ∧ ∀ x ∈ xs, Q x) := by
  classical
  intro H enc fuel cs x h
  rcases open_slice ht h with ⟨rfl, _⟩ | ⟨a, len, cap, m, n, D, Pl, rfl, _, hl, hm, hmm, _, hx⟩
  · exact ⟨[], ⟨none, 0, rfl, Nat.le_refl _, Kd.C_nil d w⟩, by simp⟩
  · have hm' : m = cap := by simpa using hmm
    have hX : ∀ i, i < len → ∃ x : α, ∃ cs', w.cells? 0 (a.add (i * d.sz)) d.sz = some cs' ∧ d.K w x cs' ∧ Q x := by
      intro i hi
      obtain ⟨cs', h1, h2⟩ := hx i (by omega)
      obtain ⟨y, hk, hq⟩ := hd H enc n cs' _ h2
      rw [hc] at h1
      exact ⟨y, cs', h1, hk, hq⟩
    rcases Nat.eq_zero_or_pos len with h0 | h0
    · subst h0
      exact ⟨[], ⟨some a, cap, rfl, Nat.zero_le _, ⟨rfl, by simp, fun h => absurd h (Nat.lt_irrefl 0)⟩⟩, by simp⟩
    · obtain ⟨x0, _⟩ := hX 0 h0
      haveI : Inhabited α := ⟨x0⟩
      obtain ⟨X, hX'⟩ := choose_lt hX
      have hlen : ((List.range len).map X).length = len := by simp
      have hmx : ((List.range len).map X).length ≤ 9223372036854775807 := by rw [hlen]; unfold maxLen at hm; omega
      refine ⟨(List.range len).map X, ⟨some a, cap, by rw [hlen], by rw [hlen]; exact hl, ⟨rfl, hmx, fun _ => ⟨a, rfl, ?_⟩⟩⟩, hmx, ?_⟩
      · intro j p hj
        have hj' : j < len := by
          have := (List.getElem?_eq_some_iff.1 hj).1
          rwa [hlen] at this
        have hp : p = X j := by
          rw [List.getElem?_map, List.getElem?_range hj'] at hj
          simpa using hj.symm
        subst hp
        obtain ⟨cs', h1, h2, _⟩ := hX' j hj'
        obtain ⟨_, hl', hcell⟩ := World.cells?_some h1
        refine ⟨cs', hl', h2, fun i u hu => ?_⟩
        have hi : i < d.sz := by
          have := (List.getElem?_eq_some_iff.1 hu).1
          omega
        have := hcell i hi
        rw [hu] at this
        rw [← this, Addr.add_add]
      · intro x hx
        obtain ⟨i, hi, rfl⟩ := List.mem_map.1 hx
        exact (hX' i (List.mem_range.1 hi)).choose_spec.2.2
theorem op_struct1 {f0 : Field} {d0 : Kd α} {Q0 : α → Prop} (ht : P.underlying t = some (.struct #[f0])) (h0 : f0.offset = 0) (z : P.cellsOf t = d0.sz) (z0 : P.cellsOf f0.type = d0.sz)
    (o0 : Rdd P w f0.type d0 Q0) : Rdd P w t d0 Q0 := by
  intro H enc fuel cs x hx
  obtain ⟨y0, n, rfl, hl, h1⟩ := trod_struct1 ht hx
  obtain ⟨a, hk, hq⟩ := o0 H enc n _ y0 h1
  rw [h0, List.drop_zero, List.take_of_length_le (by omega)] at hk
  exact ⟨a, hk, hq⟩
theorem op_of {d : Kd α} {Q : α → Prop} {H : Type} {enc : TypeId × Value → H} {v : Value} {dd : DataW H} {ps : List MemPlace} (h : Rdd P w t d Q) (hx : DataW.Trod enc P w 0 (fun _ => true) true t v dd ps) :
    ∃ a, d.K w a v.cells.toList ∧ Q a := by
  obtain ⟨fuel, hf⟩ := hx
  exact h H enc fuel _ _ hf
end Go.Proofs.Ytjiipeidginjnaa.Opens

