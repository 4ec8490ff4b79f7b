/- Out of YtjiipeidginjnaaPNum: what the claim needs of it. Conditions: each declaration's own. -/
import Derived.Test.YtjiipeidginjnaaZFlnPx1
import Derived.Test.YtjiipeidginjnaaZFlnPx2
import Derived.Test.YtjiipeidginjnaaZFlnPBase
namespace Go.Proofs.Ytjiipeidginjnaa.PNum
open Go.RowKit Go.Proofs.Ytjiipeidginjnaa.P Go.Proofs.YtjiipeidginjnaaW.PrintWords Go.Proofs.YtjiipeidginjnaaW.PrintLast Go.Proofs.Ytjiipeidginjnaa.PB
set_option linter.unusedVariables false

theorem sn_append (a b : List Int) : strOfNums (a ++ b) = strOfNums a ++ strOfNums b := by
  apply ByteArray.ext; simp [strOfNums]
theorem sn_nil : strOfNums [] = (⟨#[]⟩ : ByteArray) := rfl
theorem ba_nil (s : ByteArray) : (⟨#[]⟩ : ByteArray) ++ s = s := by
  apply ByteArray.ext; simp
theorem ba_nil' (s : ByteArray) : s ++ (⟨#[]⟩ : ByteArray) = s := by
  apply ByteArray.ext; simp
theorem ba_assoc (a b c : ByteArray) : a ++ b ++ c = a ++ (b ++ c) := by
  apply ByteArray.ext; simp [Array.append_assoc]

/-- A digit's byte. -/
def dg (x : Int) : Int := if Int.tmod x 10 < 0 then (wrap64 (48 + wrap64 (-(Int.tmod x 10)))) % 256 else (wrap64 (48 + Int.tmod x 10)) % 256
/-- The digits, the last one first. -/
def revd : Nat → Int → List Int
  | 0, _ => []
  | f + 1, x => if x = 0 then [] else dg x :: revd f (wrap64 (Int.tdiv x 10))

theorem div_small {f : Nat} {x : Int} (h : x.natAbs < 10 ^ (f + 1)) : (Int.tdiv x 10).natAbs < 10 ^ f := by
  rw [Int.natAbs_tdiv]
  show x.natAbs / 10 < 10 ^ f
  rw [Nat.div_lt_iff_lt_mul (by omega)]
  rw [Nat.pow_succ] at h; exact h
theorem in_range {x : Int} (h : (Lit.int .i64 x).wf = true) : -9223372036854775808 ≤ x ∧ x ≤ 9223372036854775807 := by
  simp only [Lit.wf, Bool.and_eq_true, decide_eq_true_eq] at h
  exact ⟨by have := h.1; simpa [IntKind.min, IntKind.bits, IntKind.signed] using this, by have := h.2; simpa [IntKind.max, IntKind.bits, IntKind.signed] using this⟩
theorem tdiv_wrap {x : Int} (h : x.natAbs ≤ 9223372036854775808) : wrap64 (Int.tdiv x 10) = Int.tdiv x 10 := by
  have : (Int.tdiv x 10).natAbs ≤ 922337203685477580 := by
    rw [Int.natAbs_tdiv]; show x.natAbs / 10 ≤ _; omega
  exact w64 (by omega) (by omega)
theorem tdiv_abs {x : Int} (h : x.natAbs ≤ 9223372036854775808) : (Int.tdiv x 10).natAbs ≤ 9223372036854775808 := by
  rw [Int.natAbs_tdiv]; show x.natAbs / 10 ≤ _; omega

theorem spec_loop (neg : Bool) : ∀ (f : Nat) (x : Int) (s : ByteArray), f ≤ 40 → x.natAbs < 10 ^ f → x.natAbs ≤ 9223372036854775808 → s.size + f ≤ 100 →
    Ev (fun k => spec_FormatInt.l0 k x s neg) ((if neg = true then (⟨#[45]⟩ : ByteArray) else ⟨#[]⟩) ++ (strOfNums (revd f x).reverse ++ s)) := by
  intro f
  induction f with
  | zero =>
    intro x s _ h _ hs
    obtain rfl : x = 0 := by simp at h; omega
    refine Ev.step (fun k => by rw [spec_FormatInt.l0]) ?_
    refine Ev.pos rfl ?_
    cases neg with
    | true =>
      refine Ev.pos rfl (Ev.pos (by omega) (Ev.const ?_))
      simp [revd, sn_nil, ba_nil]
    | false =>
      refine Ev.neg (by simp) (Ev.const ?_)
      simp [revd, sn_nil, ba_nil]
  | succ f ih =>
    intro x s hf h ha hs
    by_cases hx : x = 0
    · subst hx
      refine Ev.step (fun k => by rw [spec_FormatInt.l0]) ?_
      refine Ev.pos rfl ?_
      cases neg with
      | true =>
        refine Ev.pos rfl (Ev.pos (by omega) (Ev.const ?_))
        simp [revd, sn_nil, ba_nil]
      | false =>
        refine Ev.neg (by simp) (Ev.const ?_)
        simp [revd, sn_nil, ba_nil]
    · refine Ev.step (fun k => by rw [spec_FormatInt.l0]) ?_
      refine Ev.neg hx ?_
      have hsz : ∀ d : Int, (strOfNums [d]).size = 1 := fun d => by rw [strOfNums_size]; rfl
      have hb : ∀ d : Int, (strOfNums [d] ++ s).size + f ≤ 100 := fun d => by rw [ByteArray.size_append, hsz]; omega
      have key : ∀ d : Int, d = dg x → Ev (fun k => spec_FormatInt.l0 k (wrap64 (Int.tdiv x 10)) (strOfNums [d] ++ s) neg) ((if neg = true then (⟨#[45]⟩ : ByteArray) else ⟨#[]⟩) ++ (strOfNums (revd (f + 1) x).reverse ++ s)) := by
        intro d hd
        rw [tdiv_wrap ha]
        refine Ev.eq (ih (Int.tdiv x 10) (strOfNums [d] ++ s) (by omega) (div_small h) (tdiv_abs ha) (hb d)) rfl ?_
        have e : revd (f + 1) x = dg x :: revd f (Int.tdiv x 10) := by rw [revd, if_neg hx, tdiv_wrap ha]
        rw [e, List.reverse_cons, sn_append, hd, ba_assoc (strOfNums _) (strOfNums [dg x]) s]
      by_cases hm : Int.tmod x 10 < 0
      · refine Ev.pos hm ?_
        refine Ev.bindc (g := some _) rfl (Ev.pos (by rw [hsz]; omega) (key _ (by rw [dg, if_pos hm])))
      · refine Ev.neg hm ?_
        refine Ev.bindc (g := some _) rfl (Ev.pos (by rw [hsz]; omega) (key _ (by rw [dg, if_neg hm])))

/-- The text of a number. -/
def fmt (x : Int) : ByteArray := if x = 0 then ⟨#[48]⟩ else (if x < 0 then (⟨#[45]⟩ : ByteArray) else ⟨#[]⟩) ++ strOfNums (revd 20 x).reverse
theorem revd_len : ∀ f x, (revd f x).length ≤ f := by
  intro f
  induction f with
  | zero => intro x; simp [revd]
  | succ f ih =>
    intro x; rw [revd]; split
    · simp
    · have := ih (wrap64 (Int.tdiv x 10)); simp; omega
theorem fmt_size (x : Int) : (fmt x).size ≤ 21 := by
  unfold fmt; split
  · show (1 : Nat) ≤ 21; omega
  · have := revd_len 20 x
    rw [ByteArray.size_append, strOfNums_size, List.length_reverse]
    split
    · show 1 + _ ≤ 21; omega
    · show 0 + _ ≤ 21; omega
theorem abs_small {x : Int} (h : (Lit.int .i64 x).wf = true) : x.natAbs ≤ 9223372036854775808 := by
  have := in_range h; omega
theorem spec_ev {x : Int} (h : (Lit.int .i64 x).wf = true) : Ev (fun k => spec_FormatInt.f k x) (fmt x) := by
  have ha := abs_small h
  by_cases hx : x = 0
  · subst hx
    exact Ev.const rfl
  · refine Ev.eq (Ev.neg (c := x = 0) (f := fun _ => some (⟨#[48]⟩ : ByteArray)) hx (spec_loop (decide (x < 0)) 20 x ⟨#[]⟩ (by omega) (by show _ < (100000000000000000000 : Nat); omega) ha (by show 0 + 20 ≤ 100; omega))) (by funext k; rw [spec_FormatInt.f]) ?_
    rw [fmt, if_neg hx, ba_nil']
    by_cases hn : x < 0
    · simp [hn]
    · simp [hn]

theorem turn_loop : ∀ (n : Nat) (a m b : List Int), m.length = n → a.length = b.length → a.length + n + b.length ≤ 1000 →
    Ev (fun k => impl_FormatInt.l1 k (a ++ m ++ b) (a.length : Int) (wrap64 ((a.length + m.length : Nat) - 1 : Int))) (strOfNums (a ++ m.reverse ++ b)) := by
  intro n
  induction n using Nat.strongRecOn with
  | ind n ih =>
    intro a m b hm hab hl
    rw [w64 (by omega) (by omega)]
    by_cases h2 : n < 2
    · refine Ev.step (fun k => by rw [impl_FormatInt.l1]) ?_
      refine Ev.neg (by omega) (Ev.const ?_)
      have : m.reverse = m := by
        match m, hm with
        | [], _ => rfl
        | [x], _ => rfl
        | x :: y :: r, hm => simp at hm; omega
      rw [this]
    · obtain ⟨x, m1, y, rfl⟩ : ∃ x m1 y, m = x :: (m1 ++ [y]) := by
        match m, hm with
        | [], hm => simp at hm; omega
        | x :: r, hm =>
          have hr : r ≠ [] := by rintro rfl; simp at hm; omega
          exact ⟨x, r.dropLast, r.getLast hr, by rw [List.dropLast_concat_getLast hr]⟩
      simp only [List.length_cons, List.length_append, List.length_nil] at hm
      refine Ev.step (fun k => by rw [impl_FormatInt.l1]) ?_
      simp only [List.length_cons, List.length_append, List.length_nil] at hl ⊢
      refine Ev.pos (by omega) (Ev.pos (by omega) (Ev.pos (by omega) (Ev.pos (by omega) (Ev.pos (by omega) ?_))))
      have i1 : ((a.length : Int)).toNat = a.length := by omega
      have i2 : (((a.length + (m1.length + (0 + 1) + 1) : Nat) : Int) - 1).toNat = a.length + m1.length + 1 := by omega
      have r1 : rd (a ++ x :: (m1 ++ [y]) ++ b) (a.length : Int) = x := by
        unfold rd; rw [i1]; simp [List.getD_eq_getElem?_getD]
      have r2 : rd (a ++ x :: (m1 ++ [y]) ++ b) (((a.length + (m1.length + (0 + 1) + 1) : Nat) : Int) - 1) = y := by
        unfold rd; rw [i2, List.getD_eq_getElem?_getD]
        rw [List.getElem?_append_left (by simp; omega), List.getElem?_append_right (by omega)]
        have : a.length + m1.length + 1 - a.length = m1.length + 1 := by omega
        rw [this]; simp
      have s1 : ((a ++ x :: (m1 ++ [y]) ++ b).set (a.length : Int).toNat y).set (((a.length + (m1.length + (0 + 1) + 1) : Nat) : Int) - 1).toNat x = (a ++ [y]) ++ m1 ++ ([x] ++ b) := by
        rw [i1, i2]
        have e1 : (a ++ x :: (m1 ++ [y]) ++ b).set a.length y = (a ++ [y] ++ m1) ++ (y :: b) := by
          rw [List.append_assoc, List.set_append, if_neg (by omega), Nat.sub_self]; simp
        rw [e1, List.set_append, if_neg (by simp; omega)]
        have : a.length + m1.length + 1 - (a ++ [y] ++ m1).length = 0 := by simp; omega
        rw [this]; simp
      rw [r1, r2, s1, w64 (by omega) (by omega)]
      refine Ev.eq (ih m1.length (by omega) (a ++ [y]) m1 ([x] ++ b) rfl (by simp; omega) (by simp; omega)) ?_ ?_
      · funext k
        congr 1
        · simp
        · congr 1; simp; omega
      · simp
theorem turn_ev (l : List Int) (h : l.length ≤ 500) : Ev (fun k => impl_FormatInt.j1 k l) (strOfNums l.reverse) := by
  refine Ev.step (fun k => by rw [impl_FormatInt.j1]) ?_
  have := turn_loop l.length [] l [] rfl rfl (by simp; omega)
  simpa using this
theorem impl_loop (x0 : Int) : ∀ (f : Nat) (x : Int) (l : List Int), f ≤ 40 → x.natAbs < 10 ^ f → x.natAbs ≤ 9223372036854775808 → l.length + f ≤ 100 →
    Ev (fun k => impl_FormatInt.l0 k x0 l x) (strOfNums (l ++ revd f x ++ (if x0 < 0 then [45] else [])).reverse) := by
  intro f
  induction f with
  | zero =>
    intro x l _ h _ hs
    obtain rfl : x = 0 := by simp at h; omega
    refine Ev.step (fun k => by rw [impl_FormatInt.l0]) ?_
    refine Ev.pos rfl ?_
    by_cases hn : x0 < 0
    · refine Ev.pos hn (Ev.pos (by omega) ?_)
      rw [if_pos hn]; exact Ev.eq (turn_ev (l ++ [45]) (by simp; omega)) rfl (by simp [revd])
    · refine Ev.neg hn ?_
      rw [if_neg hn]; simpa [revd] using turn_ev l (by omega)
  | succ f ih =>
    intro x l hf h ha hs
    by_cases hx : x = 0
    · subst hx
      refine Ev.step (fun k => by rw [impl_FormatInt.l0]) ?_
      refine Ev.pos rfl ?_
      by_cases hn : x0 < 0
      · refine Ev.pos hn (Ev.pos (by omega) ?_)
        rw [if_pos hn]; exact Ev.eq (turn_ev (l ++ [45]) (by simp; omega)) rfl (by simp [revd])
      · refine Ev.neg hn ?_
        rw [if_neg hn]; simpa [revd] using turn_ev l (by omega)
    · refine Ev.step (fun k => by rw [impl_FormatInt.l0]) ?_
      refine Ev.neg hx ?_
      have key : ∀ d : Int, d = dg x → Ev (fun k => impl_FormatInt.l0 k x0 (l ++ [d]) (wrap64 (Int.tdiv x 10))) (strOfNums (l ++ revd (f + 1) x ++ (if x0 < 0 then [45] else [])).reverse) := by
        intro d hd
        rw [tdiv_wrap ha]
        refine Ev.eq (ih (Int.tdiv x 10) (l ++ [d]) (by omega) (div_small h) (tdiv_abs ha) (by simp; omega)) rfl ?_
        have e : revd (f + 1) x = dg x :: revd f (Int.tdiv x 10) := by rw [revd, if_neg hx, tdiv_wrap ha]
        rw [e, hd]; simp
      by_cases hm : Int.tmod x 10 < 0
      · exact Ev.pos hm (Ev.pos (by omega) (key _ (by rw [dg, if_pos hm])))
      · exact Ev.neg hm (Ev.pos (by omega) (key _ (by rw [dg, if_neg hm])))
theorem impl_ev {x : Int} (h : (Lit.int .i64 x).wf = true) : Ev (fun k => impl_FormatInt.f k x) (fmt x) := by
  have ha := abs_small h
  by_cases hx : x = 0
  · subst hx
    exact Ev.const rfl
  · refine Ev.eq (Ev.neg (c := x = 0) (f := fun _ => some (⟨#[48]⟩ : ByteArray)) hx (impl_loop x 20 x [] (by omega) (by show _ < (100000000000000000000 : Nat); omega) ha (by simp))) (by funext k; rw [impl_FormatInt.f]) ?_
    rw [fmt, if_neg hx]
    by_cases hn : x < 0
    · simp only [hn, if_true, List.nil_append, List.reverse_append, List.reverse_cons, List.reverse_nil]
      rw [sn_append]; rfl
    · simp only [hn, if_false, List.nil_append, List.append_nil]
      rw [ba_nil]
end Go.Proofs.Ytjiipeidginjnaa.PNum

