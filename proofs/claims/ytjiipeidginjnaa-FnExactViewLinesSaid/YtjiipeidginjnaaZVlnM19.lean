/- Several texts in one: what the claim needs of them. Conditions: each declaration's own. -/
import Derived.Test.YtjiipeidginjnaaZVlnM11
import Derived.Test.YtjiipeidginjnaaZVlnM10
import Derived.Test.YtjiipeidginjnaaZVlnM18
import Derived.Test.YtjiipeidginjnaaZVlnM13
import Derived.Test.YtjiipeidginjnaaZVlnPx17
import Derived.Test.YtjiipeidginjnaaZVlnM12
import Derived.Test.YtjiipeidginjnaaZVlnWWords
import Derived.Deep.Slices
import Derived.Deep.Strs
import Derived.Lib.SmallJoins
import Derived.WideShapes
import Derived.ChangeSame
import Derived.DataElems
namespace Go.Proofs.Ytjiipeidginjnaa.PMarkS
open Go.RowKit Go.Proofs.Ytjiipeidginjnaa.P Go.Proofs.YtjiipeidginjnaaW.PrintWords Go.Proofs.YtjiipeidginjnaaW.PrintLast Go.Proofs.Ytjiipeidginjnaa.PB Go.Proofs.Ytjiipeidginjnaa.PPInt
set_option linter.unusedVariables false
theorem digit_size (x : Int) : (strOfNums [wrap64 (48 + Int.tmod x 10) % 256]).size = 1 := by rw [strOfNums_size]; rfl
theorem text_loop : ∀ (f : Nat) (x : Int) (s : ByteArray), 0 ≤ x → x < 10 ^ f → f ≤ 20 → x ≤ 9223372036854775807 → s.size + f ≤ 100 → ∃ r, Ev (fun k => laws_markText.l0 k x s) r := by
  intro f
  induction f with
  | zero =>
    intro x s h0 h1 _ _ h2
    have hx : x = 0 := by simp at h1; omega
    subst hx
    exact ⟨_, Ev.step (fun k => by rw [laws_markText.l0]) (Ev.neg (by omega) (Ev.pos (by omega) (Ev.const rfl)))⟩
  | succ f ih =>
    intro x s h0 h1 hf hb h2
    by_cases hx : x > 0
    · have hd : Int.tdiv x 10 = x / 10 := Int.tdiv_eq_ediv_of_nonneg h0
      have hz := digit_size x
      have hp : x / 10 < 10 ^ f := by
        have : (10 : Int) ^ (f + 1) = 10 ^ f * 10 := Int.pow_succ 10 f
        omega
      obtain ⟨r, hr⟩ := ih (x / 10) (strOfNums [wrap64 (48 + Int.tmod x 10) % 256] ++ s) (by omega) hp (by omega) (by omega) (by rw [ByteArray.size_append, hz]; omega)
      refine ⟨r, ?_⟩
      refine Ev.step (fun k => by rw [laws_markText.l0]) ?_
      refine Ev.pos hx ?_
      refine Ev.bindc rfl ?_
      refine Ev.pos (by rw [hz]; omega) ?_
      rw [hd, w64 (by omega) (by omega)]
      exact hr
    · exact ⟨_, Ev.step (fun k => by rw [laws_markText.l0]) (Ev.neg hx (Ev.pos (by omega) (Ev.const rfl)))⟩
theorem text_ex (x : Int) (h0 : 0 ≤ x) (h1 : x ≤ 9223372036854775807) : ∃ r, Ev (fun k => laws_markText.f k x) r := by
  by_cases hx : x ≤ 0
  · refine ⟨(⟨#[109, 48]⟩ : ByteArray), ?_⟩
    unfold laws_markText.f
    exact Ev.pos hx (Ev.const rfl)
  · have hp : (10 : Int) ^ 20 = 100000000000000000000 := by decide
    obtain ⟨r, hr⟩ := text_loop 20 x ⟨#[]⟩ h0 (by omega) (by omega) h1 (by show 0 + 20 ≤ 100; omega)
    refine ⟨r, ?_⟩
    unfold laws_markText.f
    exact Ev.neg hx hr
/-- A mark's text. -/
noncomputable def mt (x : Int) : ByteArray := if h : 0 ≤ x ∧ x ≤ 9223372036854775807 then (text_ex x h.1 h.2).choose else ⟨#[]⟩
theorem text_ev (x : Int) (h0 : 0 ≤ x) (h1 : x ≤ 9223372036854775807) : Ev (fun k => laws_markText.f k x) (mt x) := by
  unfold mt
  rw [dif_pos ⟨h0, h1⟩]
  exact (text_ex x h0 h1).choose_spec
noncomputable def ms (a : Int) (l : List ByteArray) : List ByteArray := (List.range l.length).map fun j => mt (a + ((j : Nat) : Int))
theorem ms_len (a : Int) (l : List ByteArray) : (ms a l).length = l.length := by simp [ms]
theorem ms_at (a : Int) (l : List ByteArray) (i : Nat) (h : i < (ms a l).length) : (ms a l)[i] = mt (a + (i : Int)) := by simp [ms]
theorem ms_step (a : Int) (l : List ByteArray) (i : Nat) (h : i < l.length) : ((ms a l).take i ++ l.drop i).set i (mt (a + (i : Int))) = (ms a l).take (i + 1) ++ l.drop (i + 1) := by
  have h' : i < (ms a l).length := by rw [ms_len]; exact h
  have e : ((ms a l).take i).length = i := by rw [List.length_take, ms_len]; omega
  rw [List.set_append_right _ _ (by omega), e, Nat.sub_self, List.drop_eq_getElem_cons h, List.set_cons_zero, take_snoc h', ms_at, List.append_assoc]; rfl
theorem smark_loop (a : Int) (l : List ByteArray) (h0 : 0 ≤ a) (h1 : a + l.length ≤ 4611686018427387000) : ∀ (d i : Nat), i + d = l.length →
    Ev (fun k => laws_markStringS.l0 k ((ms a l).take i ++ l.drop i) (a + (i : Int)) (i : Int)) (a + l.length, ms a l) := by
  intro d
  induction d with
  | zero =>
    intro i hi
    obtain rfl : i = l.length := by omega
    have e : (ms a l).take l.length ++ l.drop l.length = ms a l := by rw [List.drop_length, List.append_nil, List.take_of_length_le (by rw [ms_len]; exact Nat.le_refl _)]
    rw [e]
    have := ms_len a l
    exact Ev.step (fun k => by rw [laws_markStringS.l0]) (Ev.neg (by omega) (Ev.const rfl))
  | succ d ih =>
    intro i hi
    have hlt : i < l.length := by omega
    have hl : ((ms a l).take i ++ l.drop i).length = l.length := by rw [List.length_append, List.length_take, ms_len, List.length_drop]; omega
    refine Ev.step (fun k => by rw [laws_markStringS.l0]) ?_
    refine Ev.pos (by omega) (Ev.bind (text_ev _ (by omega) (by omega)) (Ev.pos (by omega) ?_))
    rw [inc (by omega), w64 (by omega) (by omega), Int.toNat_natCast, ms_step a l i hlt]
    exact Ev.eq (ih (i + 1) (by omega)) (by funext k; congr 1; omega) rfl
theorem smark_ev (a : Int) (l : List ByteArray) (h0 : 0 ≤ a) (h1 : a + l.length ≤ 4611686018427387000) : Ev (fun k => laws_markStringS.f k l a) (a + l.length, ms a l) := by
  have h := smark_loop a l h0 h1 l.length 0 (by omega)
  refine Ev.eq h ?_ rfl
  funext k
  rw [laws_markStringS.f, List.take_zero, List.drop_zero, List.nil_append]
  congr 1; omega
theorem sheld_ev (a : Int) (l : List ByteArray) (h0 : 0 ≤ a) (h1 : a + l.length ≤ 4611686018427387000) : Ev (fun k => laws_heldStringS.f k (ms a l) a) (a + l.length) := by
  have loop : ∀ (d i : Nat), i + d = l.length → Ev (fun k => laws_heldStringS.l0 k (ms a l) (a + (i : Int)) (i : Int)) (a + l.length) := by
    intro d
    induction d with
    | zero =>
      intro i hi
      obtain rfl : i = l.length := by omega
      have := ms_len a l
      exact Ev.step (fun k => by rw [laws_heldStringS.l0]) (Ev.neg (by omega) (Ev.const rfl))
    | succ d ih =>
      intro i hi
      have hlt : i < (ms a l).length := by rw [ms_len]; omega
      have hm := ms_len a l
      refine Ev.step (fun k => by rw [laws_heldStringS.l0]) ?_
      refine Ev.pos (by omega) (Ev.pos (by omega) (Ev.bind (text_ev _ (by omega) (by omega)) ?_))
      rw [rdOf_nat _ _ _ hlt, ms_at]
      refine Ev.pos rfl ?_
      rw [inc (by omega), w64 (by omega) (by omega)]
      exact Ev.eq (ih (i + 1) (by omega)) (by funext k; congr 1; omega) rfl
  refine Ev.eq (loop l.length 0 (by omega)) ?_ rfl
  funext k
  rw [laws_heldStringS.f]
  congr 1; omega
theorem eqS_ev (l : List ByteArray) (hl : l.length ≤ 4611686018427387000) : Ev (fun k => laws_eqStringS.f k l l) true := by
  have loop : ∀ (d i : Nat), i + d = l.length → Ev (fun k => laws_eqStringS.l0 k l l (i : Int)) true := by
    intro d
    induction d with
    | zero =>
      intro i hi
      exact Ev.step (fun k => by rw [laws_eqStringS.l0]) (Ev.neg (by omega) (Ev.const rfl))
    | succ d ih =>
      intro i hi
      have hlt : i < l.length := by omega
      refine Ev.step (fun k => by rw [laws_eqStringS.l0]) (Ev.pos (by omega) (Ev.pos (by omega) ?_))
      first
        | (refine Ev.pos rfl ?_; rw [inc (by omega)]; exact ih (i + 1) (by omega))
        | (refine Ev.pos (by omega) (Ev.pos rfl ?_); rw [inc (by omega)]; exact ih (i + 1) (by omega))
  have h0 : Ev (fun k => laws_eqStringS.l0 k l l 0) true := loop l.length 0 (by omega)
  unfold laws_eqStringS.f
  first
    | exact Ev.pos rfl h0
    | exact Ev.neg (by simp) h0
end Go.Proofs.Ytjiipeidginjnaa.PMarkS

namespace Go.Proofs.Ytjiipeidginjnaa.PSum
open Go.RowKit Go.Proofs.Ytjiipeidginjnaa.Lay Go.Proofs.Ytjiipeidginjnaa.PB
theorem sum_le {α β : Type} {f : β → Nat} {c : α → β} {n : α → Nat} (m : Nat) (h : ∀ x, f (c x) ≤ m + n x) : ∀ l : List α, sumOf f (l.map c) ≤ m * l.length + tsum n l
  | [] => Nat.zero_le _
  | x :: r => by
    have h1 := sum_le m h r
    have h2 := h x
    have e : m * (r.length + 1) = m * r.length + m := Nat.mul_succ m r.length
    rw [List.map_cons, sumOf, tsum_cons, List.length_cons, e]
    omega
theorem sum_one (l : List Int) : sumOf (fun _ : Int => 1) l = l.length := by
  induction l with
  | nil => rfl
  | cons x r ih => rw [sumOf, ih, List.length_cons]; omega
end Go.Proofs.Ytjiipeidginjnaa.PSum

namespace Go.Proofs.Ytjiipeidginjnaa.PLaw
open Go.RowKit Go.Proofs.Ytjiipeidginjnaa.P Go.Proofs.YtjiipeidginjnaaW.PrintWords Go.Proofs.YtjiipeidginjnaaW.PrintLast Go.Proofs.Ytjiipeidginjnaa.PB
set_option linter.unusedVariables false

def qIntS (l : List Int) : Prop := l.length ≤ 9223372036854775807 ∧ ∀ x ∈ l, (Lit.int .i64 x).wf = true
def nIntS (l : List Int) : Nat := l.length
def cIntS (l : List Int) : List Int := l
theorem szIntS (l : List Int) (a : Int) (h0 : 0 ≤ a) (h1 : a ≤ 1048576) (hl : qIntS l) : Ev (fun k => laws_szIntS.f l a) (if a < nIntS l then -1 else a - nIntS l) := by
  have hl1 := hl.1
  refine Ev.const ?_
  unfold laws_szIntS.f nIntS
  rw [w64 (by omega) (by omega)]
  by_cases h : a < l.length
  · rw [if_pos (by omega), if_pos h]
  · rw [if_neg (by omega), if_neg h]
theorem toIntS_loop (l : List Int) (hn : nIntS l ≤ 1048576) : ∀ (d i : Nat), i + d = l.length → Ev (fun k => laws_toIntS.l0 k l (cIntS (l.take i) ++ List.replicate d 0) (i : Int)) (cIntS l) := by
  have hlen : l.length ≤ 1048576 := by unfold nIntS at hn; omega
  intro d
  induction d with
  | zero =>
    intro i hi
    obtain rfl : i = l.length := by omega
    refine Ev.step (fun k => by rw [laws_toIntS.l0]) (Ev.neg (by omega) (Ev.const ?_))
    simp
  | succ d ih =>
    intro i hi
    have hlt : i < l.length := by omega
    refine Ev.step (fun k => by rw [laws_toIntS.l0]) (Ev.pos (by omega) (Ev.pos (by omega) ?_))
    rw [rd_nat _ _ hlt, inc (by omega)]
    refine Ev.pos (by simp [cIntS]; omega) ?_
    refine Ev.eq (ih (i + 1) (by omega)) ?_ rfl
    funext k
    have e : ((i : Int)).toNat = i := by omega
    have el : (cIntS (l.take i)).length = i := by simp [cIntS]; omega
    rw [e, fill_set' _ _ _ _ _ el, take_snoc hlt]
    try rfl
theorem toIntS (l : List Int) (hn : nIntS l ≤ 1048576) : Ev (fun k => laws_toIntS.f k l) (cIntS l) := by
  have h := toIntS_loop l hn l.length 0 (by omega)
  have hlen : l.length ≤ 1048576 := by unfold nIntS at hn; omega
  refine Ev.eq (Ev.pos (c := 0 ≤ (l.length : Int)) (g := fun _ => none) (by omega) (Ev.pos (c := ((l.length : Int) : Int).toNat ≤ 35184372088832) (g := fun _ => none) (by omega) h)) ?_ rfl
  funext k
  rw [laws_toIntS.f]; simp [cIntS]
theorem eqIntS_loop (l : List Int) (hl : l.length ≤ 4611686018427387000) : ∀ (d i : Nat), i + d = l.length → Ev (fun k => laws_eqIntS.l0 k l l (i : Int)) true := by
  intro d
  induction d with
  | zero =>
    intro i hi
    exact Ev.step (fun k => by rw [laws_eqIntS.l0]) (Ev.neg (by omega) (Ev.const rfl))
  | succ d ih =>
    intro i hi
    have hlt : i < l.length := by omega
    refine Ev.step (fun k => by rw [laws_eqIntS.l0]) (Ev.pos (by omega) (Ev.pos (by omega) (Ev.pos (by omega) (Ev.pos rfl ?_))))
    rw [inc (by omega)]
    exact ih (i + 1) (by omega)
theorem eqIntS (l : List Int) (hm : l.length ≤ 4611686018427387000) : Ev (fun k => laws_eqIntS.f k l l) true :=
  Ev.eq (Ev.pos (c := (l.length : Int) = l.length) (g := fun _ => some false) rfl (eqIntS_loop l hm l.length 0 (by omega))) (by funext k; rw [laws_eqIntS.f]; rfl) rfl
theorem mcIntS {l : List Int} (hn : nIntS l ≤ 1048576) : (cIntS l).length ≤ 4611686018427387000 := by unfold nIntS at hn; show l.length ≤ _; omega
end Go.Proofs.Ytjiipeidginjnaa.PLaw

namespace Go.Proofs.Ytjiipeidginjnaa.PLaw
open Go.RowKit Go.Proofs.Ytjiipeidginjnaa.P Go.Proofs.YtjiipeidginjnaaW.PrintWords Go.Proofs.YtjiipeidginjnaaW.PrintLast Go.Proofs.Ytjiipeidginjnaa.PB
set_option linter.unusedVariables false

def qIntSS (l : List (List Int)) : Prop := l.length ≤ 9223372036854775807 ∧ ∀ x ∈ l, qIntS x
def nIntSS (l : List (List Int)) : Nat := l.length + tsum nIntS l
def cIntSS (l : List (List Int)) : List (List Int) := l.map cIntS
def mIntSS (l : List (List Int)) : Prop := l.length ≤ 4611686018427387000 ∧ ∀ x ∈ l, x.length ≤ 4611686018427387000
theorem szIntSS_loop (l : List (List Int)) (hl : l.length ≤ 1048576) (hb : ∀ x ∈ l, qIntS x) : ∀ (d i : Nat) (a : Int), i + d = l.length → 0 ≤ a → a ≤ 1048576 →
    Ev (fun k => laws_szIntSS.l0 k l a (i : Int)) (if a < tsum nIntS (l.drop i) then -1 else a - tsum nIntS (l.drop i)) := by
  intro d
  induction d with
  | zero =>
    intro i a hi h0 h1
    obtain rfl : i = l.length := by omega
    refine Ev.step (fun k => by rw [laws_szIntSS.l0]) (Ev.neg (by omega) (Ev.const ?_))
    simp [tsum]; omega
  | succ d ih =>
    intro i a hi h0 h1
    have hlt : i < l.length := by omega
    rw [drop_cons hlt, tsum_cons]
    refine Ev.step (fun k => by rw [laws_szIntSS.l0]) (Ev.pos (by omega) (Ev.pos (by omega) ?_))
    have e : rd_L1 l (i : Int) = l[i] := by rw [rd_L1]; exact getD_nat _ _ _ hlt
    rw [e, inc (by omega)]
    refine Ev.bind (szIntS l[i] a h0 h1 (hb _ (List.getElem_mem hlt))) ?_
    by_cases h : a < nIntS l[i]
    · rw [if_pos (by first | exact h | (simp only [nIntS] at h; omega))]
      refine Ev.pos (by omega) (Ev.const ?_)
      rw [if_pos (by omega)]
    · rw [if_neg (by first | exact h | (simp only [nIntS] at h; omega))]
      refine Ev.neg (by first | omega | (simp only [nIntS] at h; omega)) (Ev.eq (ih (i + 1) _ (by omega) (by first | omega | (simp only [nIntS] at h; omega)) (by omega)) rfl ?_)
      by_cases h2 : a - nIntS l[i] < tsum nIntS (l.drop (i + 1))
      · rw [if_pos (by first | exact h2 | (simp only [nIntS] at h2 ⊢; omega)), if_pos (by omega)]
      · rw [if_neg (by first | exact h2 | (simp only [nIntS] at h2 ⊢; omega)), if_neg (by omega)]; first | omega | (simp only [nIntS]; omega)
theorem szIntSS (l : List (List Int)) (a : Int) (h0 : 0 ≤ a) (h1 : a ≤ 1048576) (hq : qIntSS l) : Ev (fun k => laws_szIntSS.f k l a) (if a < nIntSS l then -1 else a - nIntSS l) := by
  have hl1 := hq.1
  have hw : wrap64 (a - (l.length : Int)) = a - l.length := w64 (by omega) (by omega)
  unfold nIntSS
  by_cases h : a < l.length
  · refine Ev.eq (Ev.const (r := -1) rfl) ?_ (by rw [if_pos (by omega)])
    funext k
    rw [laws_szIntSS.f, hw, if_pos (by omega)]
  · refine Ev.eq (szIntSS_loop l (by omega) hq.2 l.length 0 (a - l.length) (by omega) (by omega) (by omega)) ?_ ?_
    · funext k
      rw [laws_szIntSS.f, hw, if_neg (by omega)]; rfl
    · rw [List.drop_zero]
      by_cases h2 : a - l.length < tsum nIntS l
      · rw [if_pos h2, if_pos (by omega)]
      · rw [if_neg h2, if_neg (by omega)]; omega
theorem toIntSS_loop (l : List (List Int)) (hn : nIntSS l ≤ 1048576) : ∀ (d i : Nat), i + d = l.length → Ev (fun k => laws_toIntSS.l0 k l (cIntSS (l.take i) ++ List.replicate d []) (i : Int)) (cIntSS l) := by
  have hlen : l.length ≤ 1048576 := by unfold nIntSS at hn; omega
  intro d
  induction d with
  | zero =>
    intro i hi
    obtain rfl : i = l.length := by omega
    refine Ev.step (fun k => by rw [laws_toIntSS.l0]) (Ev.neg (by omega) (Ev.const ?_))
    simp
  | succ d ih =>
    intro i hi
    have hlt : i < l.length := by omega
    refine Ev.step (fun k => by rw [laws_toIntSS.l0]) (Ev.pos (by omega) (Ev.pos (by omega) ?_))
    have e : rd_L1 l (i : Int) = l[i] := by rw [rd_L1]; exact getD_nat _ _ _ hlt
    rw [e, inc (by omega)]
    have hx : nIntS l[i] ≤ 1048576 := by have := tsum_mem nIntS (List.getElem_mem hlt); unfold nIntSS at hn; omega
    refine Ev.bind (toIntS l[i] hx) (Ev.pos (by simp [cIntSS]; omega) ?_)
    refine Ev.eq (ih (i + 1) (by omega)) ?_ rfl
    funext k
    have e : ((i : Int)).toNat = i := by omega
    have el : (cIntSS (l.take i)).length = i := by simp [cIntSS]; omega
    rw [e, fill_set' _ _ _ _ _ el, take_snoc hlt]
    rw [show cIntSS (l.take i ++ [l[i]]) = cIntSS (l.take i) ++ [cIntS l[i]] from List.map_append ..]
    try rfl
theorem toIntSS (l : List (List Int)) (hn : nIntSS l ≤ 1048576) : Ev (fun k => laws_toIntSS.f k l) (cIntSS l) := by
  have h := toIntSS_loop l hn l.length 0 (by omega)
  have hlen : l.length ≤ 1048576 := by unfold nIntSS at hn; omega
  refine Ev.eq (Ev.pos (c := 0 ≤ (l.length : Int)) (g := fun _ => none) (by omega) (Ev.pos (c := ((l.length : Int) : Int).toNat ≤ 11728124029610) (g := fun _ => none) (by omega) h)) ?_ rfl
  funext k
  rw [laws_toIntSS.f]; simp [cIntSS]
theorem eqIntSS_loop (l : List (List Int)) (hl : l.length ≤ 4611686018427387000) (hb : ∀ x ∈ l, x.length ≤ 4611686018427387000) : ∀ (d i : Nat), i + d = l.length → Ev (fun k => laws_eqIntSS.l0 k l l (i : Int)) true := by
  intro d
  induction d with
  | zero =>
    intro i hi
    exact Ev.step (fun k => by rw [laws_eqIntSS.l0]) (Ev.neg (by omega) (Ev.const rfl))
  | succ d ih =>
    intro i hi
    have hlt : i < l.length := by omega
    refine Ev.step (fun k => by rw [laws_eqIntSS.l0]) (Ev.pos (by omega) (Ev.pos (by omega) (Ev.pos (by omega) ?_)))
    have e : rd_L1 l (i : Int) = l[i] := by rw [rd_L1]; exact getD_nat _ _ _ hlt
    rw [e, inc (by omega)]
    exact Ev.bind (eqIntS l[i] (hb _ (List.getElem_mem hlt))) (Ev.pos rfl (ih (i + 1) (by omega)))
theorem eqIntSS (l : List (List Int)) (hm : mIntSS l) : Ev (fun k => laws_eqIntSS.f k l l) true :=
  Ev.eq (Ev.pos (c := (l.length : Int) = l.length) (g := fun _ => some false) rfl (eqIntSS_loop l hm.1 hm.2 l.length 0 (by omega))) (by funext k; rw [laws_eqIntSS.f]; rfl) rfl
theorem mcIntSS {l : List (List Int)} (hn : nIntSS l ≤ 1048576) : mIntSS (cIntSS l) := by
  unfold nIntSS at hn
  refine ⟨by simp [cIntSS]; omega, fun x hx => ?_⟩
  obtain ⟨y, hy, rfl⟩ := List.mem_map.1 hx
  have := tsum_mem nIntS hy
  exact mcIntS (by omega)
end Go.Proofs.Ytjiipeidginjnaa.PLaw

namespace Go.Proofs.Ytjiipeidginjnaa.PLaw
open Go.RowKit Go.Proofs.Ytjiipeidginjnaa.P Go.Proofs.YtjiipeidginjnaaW.PrintWords Go.Proofs.YtjiipeidginjnaaW.PrintLast Go.Proofs.Ytjiipeidginjnaa.PB
set_option linter.unusedVariables false

def qIntSSS (l : List (List (List Int))) : Prop := l.length ≤ 9223372036854775807 ∧ ∀ x ∈ l, qIntSS x
def nIntSSS (l : List (List (List Int))) : Nat := l.length + tsum nIntSS l
def cIntSSS (l : List (List (List Int))) : List (List (List Int)) := l.map cIntSS
def mIntSSS (l : List (List (List Int))) : Prop := l.length ≤ 4611686018427387000 ∧ ∀ x ∈ l, mIntSS x
theorem szIntSSS_loop (l : List (List (List Int))) (hl : l.length ≤ 1048576) (hb : ∀ x ∈ l, qIntSS x) : ∀ (d i : Nat) (a : Int), i + d = l.length → 0 ≤ a → a ≤ 1048576 →
    Ev (fun k => laws_szIntSSS.l0 k l a (i : Int)) (if a < tsum nIntSS (l.drop i) then -1 else a - tsum nIntSS (l.drop i)) := by
  intro d
  induction d with
  | zero =>
    intro i a hi h0 h1
    obtain rfl : i = l.length := by omega
    refine Ev.step (fun k => by rw [laws_szIntSSS.l0]) (Ev.neg (by omega) (Ev.const ?_))
    simp [tsum]; omega
  | succ d ih =>
    intro i a hi h0 h1
    have hlt : i < l.length := by omega
    rw [drop_cons hlt, tsum_cons]
    refine Ev.step (fun k => by rw [laws_szIntSSS.l0]) (Ev.pos (by omega) (Ev.pos (by omega) ?_))
    have e : rd_L14 l (i : Int) = l[i] := by rw [rd_L14]; exact getD_nat _ _ _ hlt
    rw [e, inc (by omega)]
    refine Ev.bind (szIntSS l[i] a h0 h1 (hb _ (List.getElem_mem hlt))) ?_
    by_cases h : a < nIntSS l[i]
    · rw [if_pos (by first | exact h | (simp only [nIntSS] at h; omega))]
      refine Ev.pos (by omega) (Ev.const ?_)
      rw [if_pos (by omega)]
    · rw [if_neg (by first | exact h | (simp only [nIntSS] at h; omega))]
      refine Ev.neg (by first | omega | (simp only [nIntSS] at h; omega)) (Ev.eq (ih (i + 1) _ (by omega) (by first | omega | (simp only [nIntSS] at h; omega)) (by omega)) rfl ?_)
      by_cases h2 : a - nIntSS l[i] < tsum nIntSS (l.drop (i + 1))
      · rw [if_pos (by first | exact h2 | (simp only [nIntSS] at h2 ⊢; omega)), if_pos (by omega)]
      · rw [if_neg (by first | exact h2 | (simp only [nIntSS] at h2 ⊢; omega)), if_neg (by omega)]; first | omega | (simp only [nIntSS]; omega)
theorem szIntSSS (l : List (List (List Int))) (a : Int) (h0 : 0 ≤ a) (h1 : a ≤ 1048576) (hq : qIntSSS l) : Ev (fun k => laws_szIntSSS.f k l a) (if a < nIntSSS l then -1 else a - nIntSSS l) := by
  have hl1 := hq.1
  have hw : wrap64 (a - (l.length : Int)) = a - l.length := w64 (by omega) (by omega)
  unfold nIntSSS
  by_cases h : a < l.length
  · refine Ev.eq (Ev.const (r := -1) rfl) ?_ (by rw [if_pos (by omega)])
    funext k
    rw [laws_szIntSSS.f, hw, if_pos (by omega)]
  · refine Ev.eq (szIntSSS_loop l (by omega) hq.2 l.length 0 (a - l.length) (by omega) (by omega) (by omega)) ?_ ?_
    · funext k
      rw [laws_szIntSSS.f, hw, if_neg (by omega)]; rfl
    · rw [List.drop_zero]
      by_cases h2 : a - l.length < tsum nIntSS l
      · rw [if_pos h2, if_pos (by omega)]
      · rw [if_neg h2, if_neg (by omega)]; omega
theorem toIntSSS_loop (l : List (List (List Int))) (hn : nIntSSS l ≤ 1048576) : ∀ (d i : Nat), i + d = l.length → Ev (fun k => laws_toIntSSS.l0 k l (cIntSSS (l.take i) ++ List.replicate d []) (i : Int)) (cIntSSS l) := by
  have hlen : l.length ≤ 1048576 := by unfold nIntSSS at hn; omega
  intro d
  induction d with
  | zero =>
    intro i hi
    obtain rfl : i = l.length := by omega
    refine Ev.step (fun k => by rw [laws_toIntSSS.l0]) (Ev.neg (by omega) (Ev.const ?_))
    simp
  | succ d ih =>
    intro i hi
    have hlt : i < l.length := by omega
    refine Ev.step (fun k => by rw [laws_toIntSSS.l0]) (Ev.pos (by omega) (Ev.pos (by omega) ?_))
    have e : rd_L14 l (i : Int) = l[i] := by rw [rd_L14]; exact getD_nat _ _ _ hlt
    rw [e, inc (by omega)]
    have hx : nIntSS l[i] ≤ 1048576 := by have := tsum_mem nIntSS (List.getElem_mem hlt); unfold nIntSSS at hn; omega
    refine Ev.bind (toIntSS l[i] hx) (Ev.pos (by simp [cIntSSS]; omega) ?_)
    refine Ev.eq (ih (i + 1) (by omega)) ?_ rfl
    funext k
    have e : ((i : Int)).toNat = i := by omega
    have el : (cIntSSS (l.take i)).length = i := by simp [cIntSSS]; omega
    rw [e, fill_set' _ _ _ _ _ el, take_snoc hlt]
    rw [show cIntSSS (l.take i ++ [l[i]]) = cIntSSS (l.take i) ++ [cIntSS l[i]] from List.map_append ..]
    try rfl
theorem toIntSSS (l : List (List (List Int))) (hn : nIntSSS l ≤ 1048576) : Ev (fun k => laws_toIntSSS.f k l) (cIntSSS l) := by
  have h := toIntSSS_loop l hn l.length 0 (by omega)
  have hlen : l.length ≤ 1048576 := by unfold nIntSSS at hn; omega
  refine Ev.eq (Ev.pos (c := 0 ≤ (l.length : Int)) (g := fun _ => none) (by omega) (Ev.pos (c := ((l.length : Int) : Int).toNat ≤ 11728124029610) (g := fun _ => none) (by omega) h)) ?_ rfl
  funext k
  rw [laws_toIntSSS.f]; simp [cIntSSS]
theorem eqIntSSS_loop (l : List (List (List Int))) (hl : l.length ≤ 4611686018427387000) (hb : ∀ x ∈ l, mIntSS x) : ∀ (d i : Nat), i + d = l.length → Ev (fun k => laws_eqIntSSS.l0 k l l (i : Int)) true := by
  intro d
  induction d with
  | zero =>
    intro i hi
    exact Ev.step (fun k => by rw [laws_eqIntSSS.l0]) (Ev.neg (by omega) (Ev.const rfl))
  | succ d ih =>
    intro i hi
    have hlt : i < l.length := by omega
    refine Ev.step (fun k => by rw [laws_eqIntSSS.l0]) (Ev.pos (by omega) (Ev.pos (by omega) (Ev.pos (by omega) ?_)))
    have e : rd_L14 l (i : Int) = l[i] := by rw [rd_L14]; exact getD_nat _ _ _ hlt
    rw [e, inc (by omega)]
    exact Ev.bind (eqIntSS l[i] (hb _ (List.getElem_mem hlt))) (Ev.pos rfl (ih (i + 1) (by omega)))
theorem eqIntSSS (l : List (List (List Int))) (hm : mIntSSS l) : Ev (fun k => laws_eqIntSSS.f k l l) true :=
  Ev.eq (Ev.pos (c := (l.length : Int) = l.length) (g := fun _ => some false) rfl (eqIntSSS_loop l hm.1 hm.2 l.length 0 (by omega))) (by funext k; rw [laws_eqIntSSS.f]; rfl) rfl
theorem mcIntSSS {l : List (List (List Int))} (hn : nIntSSS l ≤ 1048576) : mIntSSS (cIntSSS l) := by
  unfold nIntSSS at hn
  refine ⟨by simp [cIntSSS]; omega, fun x hx => ?_⟩
  obtain ⟨y, hy, rfl⟩ := List.mem_map.1 hx
  have := tsum_mem nIntSS hy
  exact mcIntSS (by omega)
end Go.Proofs.Ytjiipeidginjnaa.PLaw

namespace Go.Proofs.Ytjiipeidginjnaa.PLaw
open Go.RowKit Go.Proofs.Ytjiipeidginjnaa.P Go.Proofs.YtjiipeidginjnaaW.PrintWords Go.Proofs.YtjiipeidginjnaaW.PrintLast Go.Proofs.Ytjiipeidginjnaa.PB
set_option linter.unusedVariables false

def qAtom (x : S175) : Prop := ((Lit.int .i64 x.f0).wf = true) ∧ (qIntS x.f1)
def nAtom (x : S175) : Nat := nIntS x.f1
def cAtom (x : S175) : S153 := ⟨x.f0, cIntS x.f1⟩
def qAtomS (l : List S175) : Prop := l.length ≤ 9223372036854775807 ∧ ∀ x ∈ l, qAtom x
def nAtomS (l : List S175) : Nat := l.length + tsum nAtom l
def cAtomS (l : List S175) : List S153 := l.map cAtom
def mAtom (x : S153) : Prop := (True) ∧ (x.f1.length ≤ 4611686018427387000)
def mAtomS (l : List S153) : Prop := l.length ≤ 4611686018427387000 ∧ ∀ x ∈ l, mAtom x
theorem szAtom (x0 : Int) (x1 : List Int) (a : Int) (h0 : 0 ≤ a) (h1 : a ≤ 1048576) (qx0_ : (Lit.int .i64 x0).wf = true) (qx1_ : qIntS x1) : Ev (fun k => laws_szAtom.f x0 x1 a) (if a < ((nIntS x1 : Nat) : Int) then -1 else a - ((nIntS x1 : Nat) : Int)) := by
  unfold laws_szAtom.f
  have g0 : a ≤ 1048576 := by first | omega | exact h1
  refine Ev.bind (szIntS x1 a (by omega) (by omega) qx1_) ?_
  by_cases c0 : a < ((nIntS x1 : Nat) : Int)
  · rw [if_pos c0]
    exact Ev.pos (by omega) (Ev.const (by first | rfl | rw [if_pos (by omega)]))
  rw [if_neg c0]
  refine Ev.neg (by omega) ?_
  have e0 : a - ((nIntS x1 : Nat) : Int) = (a - ((nIntS x1 : Nat) : Int)) := by omega
  rw [e0]
  exact Ev.const (by first | rfl | rw [if_neg (by omega)])
theorem szAtomS_loop (l : List S175) (hl : l.length ≤ 1048576) (hb : ∀ x ∈ l, qAtom x) : ∀ (d i : Nat) (a : Int), i + d = l.length → 0 ≤ a → a ≤ 1048576 →
    Ev (fun k => laws_szAtomS.l0 k l a (i : Int)) (if a < tsum nAtom (l.drop i) then -1 else a - tsum nAtom (l.drop i)) := by
  intro d
  induction d with
  | zero =>
    intro i a hi h0 h1
    obtain rfl : i = l.length := by omega
    refine Ev.step (fun k => by rw [laws_szAtomS.l0]) (Ev.neg (by omega) (Ev.const ?_))
    simp [tsum]; omega
  | succ d ih =>
    intro i a hi h0 h1
    have hlt : i < l.length := by omega
    rw [drop_cons hlt, tsum_cons]
    refine Ev.step (fun k => by rw [laws_szAtomS.l0]) (Ev.pos (by omega) (Ev.pos (by omega) ?_))
    have e : rd_T175 l (i : Int) = l[i] := by rw [rd_T175]; exact getD_nat _ _ _ hlt
    rw [e, inc (by omega)]
    refine Ev.bind (szAtom (l[i].f0) (l[i].f1) a h0 h1 (hb _ (List.getElem_mem hlt)).1 (hb _ (List.getElem_mem hlt)).2) ?_
    by_cases h : a < nAtom l[i]
    · rw [if_pos (by first | exact h | (simp only [nAtom] at h; omega))]
      refine Ev.pos (by omega) (Ev.const ?_)
      rw [if_pos (by omega)]
    · rw [if_neg (by first | exact h | (simp only [nAtom] at h; omega))]
      refine Ev.neg (by first | omega | (simp only [nAtom] at h; omega)) (Ev.eq (ih (i + 1) _ (by omega) (by first | omega | (simp only [nAtom] at h; omega)) (by omega)) rfl ?_)
      by_cases h2 : a - nAtom l[i] < tsum nAtom (l.drop (i + 1))
      · rw [if_pos (by first | exact h2 | (simp only [nAtom] at h2 ⊢; omega)), if_pos (by omega)]
      · rw [if_neg (by first | exact h2 | (simp only [nAtom] at h2 ⊢; omega)), if_neg (by omega)]; first | omega | (simp only [nAtom]; omega)
theorem szAtomS (l : List S175) (a : Int) (h0 : 0 ≤ a) (h1 : a ≤ 1048576) (hq : qAtomS l) : Ev (fun k => laws_szAtomS.f k l a) (if a < nAtomS l then -1 else a - nAtomS l) := by
  have hl1 := hq.1
  have hw : wrap64 (a - (l.length : Int)) = a - l.length := w64 (by omega) (by omega)
  unfold nAtomS
  by_cases h : a < l.length
  · refine Ev.eq (Ev.const (r := -1) rfl) ?_ (by rw [if_pos (by omega)])
    funext k
    rw [laws_szAtomS.f, hw, if_pos (by omega)]
  · refine Ev.eq (szAtomS_loop l (by omega) hq.2 l.length 0 (a - l.length) (by omega) (by omega) (by omega)) ?_ ?_
    · funext k
      rw [laws_szAtomS.f, hw, if_neg (by omega)]; rfl
    · rw [List.drop_zero]
      by_cases h2 : a - l.length < tsum nAtom l
      · rw [if_pos h2, if_pos (by omega)]
      · rw [if_neg h2, if_neg (by omega)]; omega
theorem toAtom (x0 : Int) (x1 : List Int) (hn : nIntS x1 ≤ 1048576) : Ev (fun k => laws_toAtom.f k x0 x1) (x0, cIntS x1) := by
  unfold laws_toAtom.f
  refine Ev.bind (toIntS x1 (by omega)) ?_
  exact Ev.const rfl
theorem toAtomS_loop (l : List S175) (hn : nAtomS l ≤ 1048576) : ∀ (d i : Nat), i + d = l.length → Ev (fun k => laws_toAtomS.l0 k l (cAtomS (l.take i) ++ List.replicate d z153) (i : Int)) (cAtomS l) := by
  have hlen : l.length ≤ 1048576 := by unfold nAtomS at hn; omega
  intro d
  induction d with
  | zero =>
    intro i hi
    obtain rfl : i = l.length := by omega
    refine Ev.step (fun k => by rw [laws_toAtomS.l0]) (Ev.neg (by omega) (Ev.const ?_))
    simp
  | succ d ih =>
    intro i hi
    have hlt : i < l.length := by omega
    refine Ev.step (fun k => by rw [laws_toAtomS.l0]) (Ev.pos (by omega) (Ev.pos (by omega) ?_))
    have e : rd_T175 l (i : Int) = l[i] := by rw [rd_T175]; exact getD_nat _ _ _ hlt
    rw [e, inc (by omega)]
    have hx : nAtom l[i] ≤ 1048576 := by have := tsum_mem nAtom (List.getElem_mem hlt); unfold nAtomS at hn; omega
    refine Ev.bind (toAtom (l[i].f0) (l[i].f1) hx) (Ev.pos (by simp [cAtomS]; omega) ?_)
    refine Ev.eq (ih (i + 1) (by omega)) ?_ rfl
    funext k
    have e : ((i : Int)).toNat = i := by omega
    have el : (cAtomS (l.take i)).length = i := by simp [cAtomS]; omega
    rw [e, fill_set' _ _ _ _ _ el, take_snoc hlt]
    rw [show cAtomS (l.take i ++ [l[i]]) = cAtomS (l.take i) ++ [cAtom l[i]] from List.map_append ..]
    try rfl
theorem toAtomS (l : List S175) (hn : nAtomS l ≤ 1048576) : Ev (fun k => laws_toAtomS.f k l) (cAtomS l) := by
  have h := toAtomS_loop l hn l.length 0 (by omega)
  have hlen : l.length ≤ 1048576 := by unfold nAtomS at hn; omega
  refine Ev.eq (Ev.pos (c := 0 ≤ (l.length : Int)) (g := fun _ => none) (by omega) (Ev.pos (c := ((l.length : Int) : Int).toNat ≤ 8796093022208) (g := fun _ => none) (by omega) h)) ?_ rfl
  funext k
  rw [laws_toAtomS.f]; simp [cAtomS]
theorem eqAtom (x0 : Int) (x1 : List Int) (mx1_ : x1.length ≤ 4611686018427387000) : Ev (fun k => laws_eqAtom.f k x0 x1 x0 x1) true := by
  unfold laws_eqAtom.f
  first | refine Ev.pos rfl ?_ | skip
  refine Ev.bind (eqIntS x1 mx1_) (Ev.pos rfl ?_)
  exact Ev.const rfl
theorem eqAtomS_loop (l : List S153) (hl : l.length ≤ 4611686018427387000) (hb : ∀ x ∈ l, mAtom x) : ∀ (d i : Nat), i + d = l.length → Ev (fun k => laws_eqAtomS.l0 k l l (i : Int)) true := by
  intro d
  induction d with
  | zero =>
    intro i hi
    exact Ev.step (fun k => by rw [laws_eqAtomS.l0]) (Ev.neg (by omega) (Ev.const rfl))
  | succ d ih =>
    intro i hi
    have hlt : i < l.length := by omega
    refine Ev.step (fun k => by rw [laws_eqAtomS.l0]) (Ev.pos (by omega) (Ev.pos (by omega) (Ev.pos (by omega) ?_)))
    have e : rd_T153 l (i : Int) = l[i] := by rw [rd_T153]; exact getD_nat _ _ _ hlt
    rw [e, inc (by omega)]
    exact Ev.bind (eqAtom (l[i].f0) (l[i].f1) ((hb _ (List.getElem_mem hlt)).2)) (Ev.pos rfl (ih (i + 1) (by omega)))
theorem eqAtomS (l : List S153) (hm : mAtomS l) : Ev (fun k => laws_eqAtomS.f k l l) true :=
  Ev.eq (Ev.pos (c := (l.length : Int) = l.length) (g := fun _ => some false) rfl (eqAtomS_loop l hm.1 hm.2 l.length 0 (by omega))) (by funext k; rw [laws_eqAtomS.f]; rfl) rfl
theorem mcAtom {x : S175} (hn : nAtom x ≤ 1048576) : mAtom (cAtom x) := by
  unfold nAtom at hn
  exact ⟨trivial, mcIntS (l := x.f1) (by omega)⟩
theorem mcAtomS {l : List S175} (hn : nAtomS l ≤ 1048576) : mAtomS (cAtomS l) := by
  unfold nAtomS at hn
  refine ⟨by simp [cAtomS]; omega, fun x hx => ?_⟩
  obtain ⟨y, hy, rfl⟩ := List.mem_map.1 hx
  have := tsum_mem nAtom hy
  exact mcAtom (by omega)
end Go.Proofs.Ytjiipeidginjnaa.PLaw

namespace Go.Proofs.Ytjiipeidginjnaa.PLaw
open Go.RowKit Go.Proofs.Ytjiipeidginjnaa.P Go.Proofs.YtjiipeidginjnaaW.PrintWords Go.Proofs.YtjiipeidginjnaaW.PrintLast Go.Proofs.Ytjiipeidginjnaa.PB
set_option linter.unusedVariables false

def qQuery (x : S65) : Prop := (qIntS x.f0) ∧ (qAtomS x.f1)
def nQuery (x : S65) : Nat := nIntS x.f0 + nAtomS x.f1
def cQuery (x : S65) : S72 := ⟨cIntS x.f0, cAtomS x.f1⟩
def qQueryS (l : List S65) : Prop := l.length ≤ 9223372036854775807 ∧ ∀ x ∈ l, qQuery x
def nQueryS (l : List S65) : Nat := l.length + tsum nQuery l
def cQueryS (l : List S65) : List S72 := l.map cQuery
def mQuery (x : S72) : Prop := (x.f0.length ≤ 4611686018427387000) ∧ (mAtomS x.f1)
def mQueryS (l : List S72) : Prop := l.length ≤ 4611686018427387000 ∧ ∀ x ∈ l, mQuery x
theorem szQuery (x0 : List Int) (x1 : List S175) (a : Int) (h0 : 0 ≤ a) (h1 : a ≤ 1048576) (qx0_ : qIntS x0) (qx1_ : qAtomS x1) : Ev (fun k => laws_szQuery.f k x0 x1 a) (if a < ((nIntS x0 + nAtomS x1 : Nat) : Int) then -1 else a - ((nIntS x0 + nAtomS x1 : Nat) : Int)) := by
  unfold laws_szQuery.f
  have g0 : a ≤ 1048576 := by first | omega | exact h1
  refine Ev.bind (szIntS x0 a (by omega) (by omega) qx0_) ?_
  by_cases c0 : a < ((nIntS x0 : Nat) : Int)
  · rw [if_pos c0]
    exact Ev.pos (by omega) (Ev.const (by first | rfl | rw [if_pos (by omega)]))
  rw [if_neg c0]
  refine Ev.neg (by omega) ?_
  have e0 : a - ((nIntS x0 : Nat) : Int) = (a - ((nIntS x0 : Nat) : Int)) := by omega
  rw [e0]
  have g1 : (a - ((nIntS x0 : Nat) : Int)) ≤ 1048576 := by first | omega | exact h1
  refine Ev.bind (szAtomS x1 (a - ((nIntS x0 : Nat) : Int)) (by omega) (by omega) qx1_) ?_
  by_cases c1 : (a - ((nIntS x0 : Nat) : Int)) < ((nAtomS x1 : Nat) : Int)
  · rw [if_pos c1]
    exact Ev.pos (by omega) (Ev.const (by first | rfl | rw [if_pos (by omega)]))
  rw [if_neg c1]
  refine Ev.neg (by omega) ?_
  have e1 : (a - ((nIntS x0 : Nat) : Int)) - ((nAtomS x1 : Nat) : Int) = (a - ((nIntS x0 + nAtomS x1 : Nat) : Int)) := by omega
  rw [e1]
  exact Ev.const (by first | rfl | rw [if_neg (by omega)])
theorem szQueryS_loop (l : List S65) (hl : l.length ≤ 1048576) (hb : ∀ x ∈ l, qQuery x) : ∀ (d i : Nat) (a : Int), i + d = l.length → 0 ≤ a → a ≤ 1048576 →
    Ev (fun k => laws_szQueryS.l0 k l a (i : Int)) (if a < tsum nQuery (l.drop i) then -1 else a - tsum nQuery (l.drop i)) := by
  intro d
  induction d with
  | zero =>
    intro i a hi h0 h1
    obtain rfl : i = l.length := by omega
    refine Ev.step (fun k => by rw [laws_szQueryS.l0]) (Ev.neg (by omega) (Ev.const ?_))
    simp [tsum]; omega
  | succ d ih =>
    intro i a hi h0 h1
    have hlt : i < l.length := by omega
    rw [drop_cons hlt, tsum_cons]
    refine Ev.step (fun k => by rw [laws_szQueryS.l0]) (Ev.pos (by omega) (Ev.pos (by omega) ?_))
    have e : rd_T65 l (i : Int) = l[i] := by rw [rd_T65]; exact getD_nat _ _ _ hlt
    rw [e, inc (by omega)]
    refine Ev.bind (szQuery (l[i].f0) (l[i].f1) a h0 h1 (hb _ (List.getElem_mem hlt)).1 (hb _ (List.getElem_mem hlt)).2) ?_
    by_cases h : a < nQuery l[i]
    · rw [if_pos (by first | exact h | (simp only [nQuery] at h; omega))]
      refine Ev.pos (by omega) (Ev.const ?_)
      rw [if_pos (by omega)]
    · rw [if_neg (by first | exact h | (simp only [nQuery] at h; omega))]
      refine Ev.neg (by first | omega | (simp only [nQuery] at h; omega)) (Ev.eq (ih (i + 1) _ (by omega) (by first | omega | (simp only [nQuery] at h; omega)) (by omega)) rfl ?_)
      by_cases h2 : a - nQuery l[i] < tsum nQuery (l.drop (i + 1))
      · rw [if_pos (by first | exact h2 | (simp only [nQuery] at h2 ⊢; omega)), if_pos (by omega)]
      · rw [if_neg (by first | exact h2 | (simp only [nQuery] at h2 ⊢; omega)), if_neg (by omega)]; first | omega | (simp only [nQuery]; omega)
theorem szQueryS (l : List S65) (a : Int) (h0 : 0 ≤ a) (h1 : a ≤ 1048576) (hq : qQueryS l) : Ev (fun k => laws_szQueryS.f k l a) (if a < nQueryS l then -1 else a - nQueryS l) := by
  have hl1 := hq.1
  have hw : wrap64 (a - (l.length : Int)) = a - l.length := w64 (by omega) (by omega)
  unfold nQueryS
  by_cases h : a < l.length
  · refine Ev.eq (Ev.const (r := -1) rfl) ?_ (by rw [if_pos (by omega)])
    funext k
    rw [laws_szQueryS.f, hw, if_pos (by omega)]
  · refine Ev.eq (szQueryS_loop l (by omega) hq.2 l.length 0 (a - l.length) (by omega) (by omega) (by omega)) ?_ ?_
    · funext k
      rw [laws_szQueryS.f, hw, if_neg (by omega)]; rfl
    · rw [List.drop_zero]
      by_cases h2 : a - l.length < tsum nQuery l
      · rw [if_pos h2, if_pos (by omega)]
      · rw [if_neg h2, if_neg (by omega)]; omega
theorem toQuery (x0 : List Int) (x1 : List S175) (hn : nIntS x0 + nAtomS x1 ≤ 1048576) : Ev (fun k => laws_toQuery.f k x0 x1) (cIntS x0, cAtomS x1) := by
  unfold laws_toQuery.f
  refine Ev.bind (toIntS x0 (by omega)) ?_
  refine Ev.bind (toAtomS x1 (by omega)) ?_
  exact Ev.const rfl
theorem toQueryS_loop (l : List S65) (hn : nQueryS l ≤ 1048576) : ∀ (d i : Nat), i + d = l.length → Ev (fun k => laws_toQueryS.l0 k l (cQueryS (l.take i) ++ List.replicate d z72) (i : Int)) (cQueryS l) := by
  have hlen : l.length ≤ 1048576 := by unfold nQueryS at hn; omega
  intro d
  induction d with
  | zero =>
    intro i hi
    obtain rfl : i = l.length := by omega
    refine Ev.step (fun k => by rw [laws_toQueryS.l0]) (Ev.neg (by omega) (Ev.const ?_))
    simp
  | succ d ih =>
    intro i hi
    have hlt : i < l.length := by omega
    refine Ev.step (fun k => by rw [laws_toQueryS.l0]) (Ev.pos (by omega) (Ev.pos (by omega) ?_))
    have e : rd_T65 l (i : Int) = l[i] := by rw [rd_T65]; exact getD_nat _ _ _ hlt
    rw [e, inc (by omega)]
    have hx : nQuery l[i] ≤ 1048576 := by have := tsum_mem nQuery (List.getElem_mem hlt); unfold nQueryS at hn; omega
    refine Ev.bind (toQuery (l[i].f0) (l[i].f1) hx) (Ev.pos (by simp [cQueryS]; omega) ?_)
    refine Ev.eq (ih (i + 1) (by omega)) ?_ rfl
    funext k
    have e : ((i : Int)).toNat = i := by omega
    have el : (cQueryS (l.take i)).length = i := by simp [cQueryS]; omega
    rw [e, fill_set' _ _ _ _ _ el, take_snoc hlt]
    rw [show cQueryS (l.take i ++ [l[i]]) = cQueryS (l.take i) ++ [cQuery l[i]] from List.map_append ..]
    try rfl
theorem toQueryS (l : List S65) (hn : nQueryS l ≤ 1048576) : Ev (fun k => laws_toQueryS.f k l) (cQueryS l) := by
  have h := toQueryS_loop l hn l.length 0 (by omega)
  have hlen : l.length ≤ 1048576 := by unfold nQueryS at hn; omega
  refine Ev.eq (Ev.pos (c := 0 ≤ (l.length : Int)) (g := fun _ => none) (by omega) (Ev.pos (c := ((l.length : Int) : Int).toNat ≤ 5864062014805) (g := fun _ => none) (by omega) h)) ?_ rfl
  funext k
  rw [laws_toQueryS.f]; simp [cQueryS]
theorem eqQuery (x0 : List Int) (x1 : List S153) (mx0_ : x0.length ≤ 4611686018427387000) (mx1_ : mAtomS x1) : Ev (fun k => laws_eqQuery.f k x0 x1 x0 x1) true := by
  unfold laws_eqQuery.f
  refine Ev.bind (eqIntS x0 mx0_) (Ev.pos rfl ?_)
  refine Ev.bind (eqAtomS x1 mx1_) (Ev.pos rfl ?_)
  exact Ev.const rfl
theorem eqQueryS_loop (l : List S72) (hl : l.length ≤ 4611686018427387000) (hb : ∀ x ∈ l, mQuery x) : ∀ (d i : Nat), i + d = l.length → Ev (fun k => laws_eqQueryS.l0 k l l (i : Int)) true := by
  intro d
  induction d with
  | zero =>
    intro i hi
    exact Ev.step (fun k => by rw [laws_eqQueryS.l0]) (Ev.neg (by omega) (Ev.const rfl))
  | succ d ih =>
    intro i hi
    have hlt : i < l.length := by omega
    refine Ev.step (fun k => by rw [laws_eqQueryS.l0]) (Ev.pos (by omega) (Ev.pos (by omega) (Ev.pos (by omega) ?_)))
    have e : rd_T72 l (i : Int) = l[i] := by rw [rd_T72]; exact getD_nat _ _ _ hlt
    rw [e, inc (by omega)]
    exact Ev.bind (eqQuery (l[i].f0) (l[i].f1) ((hb _ (List.getElem_mem hlt)).1) ((hb _ (List.getElem_mem hlt)).2)) (Ev.pos rfl (ih (i + 1) (by omega)))
theorem eqQueryS (l : List S72) (hm : mQueryS l) : Ev (fun k => laws_eqQueryS.f k l l) true :=
  Ev.eq (Ev.pos (c := (l.length : Int) = l.length) (g := fun _ => some false) rfl (eqQueryS_loop l hm.1 hm.2 l.length 0 (by omega))) (by funext k; rw [laws_eqQueryS.f]; rfl) rfl
theorem mcQuery {x : S65} (hn : nQuery x ≤ 1048576) : mQuery (cQuery x) := by
  unfold nQuery at hn
  exact ⟨mcIntS (l := x.f0) (by omega), mcAtomS (l := x.f1) (by omega)⟩
theorem mcQueryS {l : List S65} (hn : nQueryS l ≤ 1048576) : mQueryS (cQueryS l) := by
  unfold nQueryS at hn
  refine ⟨by simp [cQueryS]; omega, fun x hx => ?_⟩
  obtain ⟨y, hy, rfl⟩ := List.mem_map.1 hx
  have := tsum_mem nQuery hy
  exact mcQuery (by omega)
end Go.Proofs.Ytjiipeidginjnaa.PLaw

namespace Go.Proofs.Ytjiipeidginjnaa.PLaw
open Go.RowKit Go.Proofs.Ytjiipeidginjnaa.P Go.Proofs.YtjiipeidginjnaaW.PrintWords Go.Proofs.YtjiipeidginjnaaW.PrintLast Go.Proofs.Ytjiipeidginjnaa.PB
set_option linter.unusedVariables false

theorem szCache (x0 : List S65) (x1 : List (List (List Int))) (x2 : Int) (a : Int) (h0 : 0 ≤ a) (h1 : a ≤ 1048576) (qx0_ : qQueryS x0) (qx1_ : qIntSSS x1) (qx2_ : (Lit.int .i64 x2).wf = true) : Ev (fun k => laws_szCache.f k x0 x1 x2 a) (if a < ((nQueryS x0 + nIntSSS x1 : Nat) : Int) then -1 else a - ((nQueryS x0 + nIntSSS x1 : Nat) : Int)) := by
  unfold laws_szCache.f
  have g0 : a ≤ 1048576 := by first | omega | exact h1
  refine Ev.bind (szQueryS x0 a (by omega) (by omega) qx0_) ?_
  by_cases c0 : a < ((nQueryS x0 : Nat) : Int)
  · rw [if_pos c0]
    exact Ev.pos (by omega) (Ev.const (by first | rfl | rw [if_pos (by omega)]))
  rw [if_neg c0]
  refine Ev.neg (by omega) ?_
  have e0 : a - ((nQueryS x0 : Nat) : Int) = (a - ((nQueryS x0 : Nat) : Int)) := by omega
  rw [e0]
  have g1 : (a - ((nQueryS x0 : Nat) : Int)) ≤ 1048576 := by first | omega | exact h1
  refine Ev.bind (szIntSSS x1 (a - ((nQueryS x0 : Nat) : Int)) (by omega) (by omega) qx1_) ?_
  by_cases c1 : (a - ((nQueryS x0 : Nat) : Int)) < ((nIntSSS x1 : Nat) : Int)
  · rw [if_pos c1]
    exact Ev.pos (by omega) (Ev.const (by first | rfl | rw [if_pos (by omega)]))
  rw [if_neg c1]
  refine Ev.neg (by omega) ?_
  have e1 : (a - ((nQueryS x0 : Nat) : Int)) - ((nIntSSS x1 : Nat) : Int) = (a - ((nQueryS x0 + nIntSSS x1 : Nat) : Int)) := by omega
  rw [e1]
  exact Ev.const (by first | rfl | rw [if_neg (by omega)])
theorem toCache (x0 : List S65) (x1 : List (List (List Int))) (x2 : Int) (hn : nQueryS x0 + nIntSSS x1 ≤ 1048576) : Ev (fun k => laws_toCache.f k x0 x1 x2) (cQueryS x0, cIntSSS x1, x2) := by
  unfold laws_toCache.f
  refine Ev.bind (toQueryS x0 (by omega)) ?_
  refine Ev.bind (toIntSSS x1 (by omega)) ?_
  exact Ev.const rfl
theorem eqCache (x0 : List S72) (x1 : List (List (List Int))) (x2 : Int) (mx0_ : mQueryS x0) (mx1_ : mIntSSS x1) : Ev (fun k => laws_eqCache.f k x0 x1 x2 x0 x1 x2) true := by
  unfold laws_eqCache.f
  refine Ev.bind (eqQueryS x0 mx0_) (Ev.pos rfl ?_)
  refine Ev.bind (eqIntSSS x1 mx1_) (Ev.pos rfl ?_)
  first | refine Ev.pos rfl ?_ | skip
  exact Ev.const rfl
end Go.Proofs.Ytjiipeidginjnaa.PLaw

namespace Go.Proofs.Ytjiipeidginjnaa.Opens
open Go.RowKit Go.Proofs.YtjiipeidginjnaaW.PrintWords Go.Deep Go.ChangeShapes Go.WideShapes
set_option linter.unusedVariables false

/-- Whatever reads as data of type t is of kind d, and Q holds of it. -/
def Rdd {α : Type} (P : Program) (w : World) (t : TypeId) (d : Kd α) (Q : α → Prop) : Prop :=
  ∀ (H : Type) (enc : TypeId × Value → H) (fuel : Nat) (cs : List Value) (x : DataW H × List MemPlace),
    DataW.trod enc P w 0 (fun _ => true) true fuel t cs = some x → ∃ a, d.K w a cs ∧ Q a

variable {α β γ δ : Type} {P : Program} {w : World} {t e : TypeId}

theorem op_int {k : IntKind} (ht : P.underlying t = some (.int k)) : Rdd P w t (Kd.int k) (fun n => (Lit.int k n).wf = true) := by
  intro H enc fuel cs x h
  obtain ⟨n, rfl, _, hw⟩ := DataW.trod_int ht h
  exact ⟨n, rfl, hw⟩
theorem op_mono {d : Kd α} {Q Q' : α → Prop} (h : Rdd P w t d Q) (hq : ∀ a, Q a → Q' a) : Rdd P w t d Q' := by
  intro H enc fuel cs x hx
  obtain ⟨a, hk, hQ⟩ := h H enc fuel cs x hx
  exact ⟨a, hk, hq a hQ⟩
theorem op_slice {d : Kd α} {Q : α → Prop} (ht : P.underlying t = some (.slice e)) (hc : P.cellsOf e = d.sz) (hd : Rdd P w e d Q) :
    Rdd P w t (Kd.slice e d) (fun xs => xs.length ≤ 9223372036854775807 ∧ ∀ x ∈ xs, Q x) := by
  classical
  intro H enc fuel cs x h
  rcases open_slice ht h with ⟨rfl, _⟩ | ⟨a, len, cap, m, n, D, Pl, rfl, _, hl, hm, hmm, _, hx⟩
  · exact ⟨[], ⟨none, 0, rfl, Nat.le_refl _, Kd.C_nil d w⟩, by simp⟩
  · have hm' : m = cap := by simpa using hmm
    have hX : ∀ i, i < len → ∃ x : α, ∃ cs', w.cells? 0 (a.add (i * d.sz)) d.sz = some cs' ∧ d.K w x cs' ∧ Q x := by
      intro i hi
      obtain ⟨cs', h1, h2⟩ := hx i (by omega)
      obtain ⟨y, hk, hq⟩ := hd H enc n cs' _ h2
      rw [hc] at h1
      exact ⟨y, cs', h1, hk, hq⟩
    rcases Nat.eq_zero_or_pos len with h0 | h0
    · subst h0
      exact ⟨[], ⟨some a, cap, rfl, Nat.zero_le _, ⟨rfl, by simp, fun h => absurd h (Nat.lt_irrefl 0)⟩⟩, by simp⟩
    · obtain ⟨x0, _⟩ := hX 0 h0
      haveI : Inhabited α := ⟨x0⟩
      obtain ⟨X, hX'⟩ := choose_lt hX
      have hlen : ((List.range len).map X).length = len := by simp
      have hmx : ((List.range len).map X).length ≤ 9223372036854775807 := by rw [hlen]; unfold maxLen at hm; omega
      refine ⟨(List.range len).map X, ⟨some a, cap, by rw [hlen], by rw [hlen]; exact hl, ⟨rfl, hmx, fun _ => ⟨a, rfl, ?_⟩⟩⟩, hmx, ?_⟩
      · intro j p hj
        have hj' : j < len := by
          have := (List.getElem?_eq_some_iff.1 hj).1
          rwa [hlen] at this
        have hp : p = X j := by
          rw [List.getElem?_map, List.getElem?_range hj'] at hj
          simpa using hj.symm
        subst hp
        obtain ⟨cs', h1, h2, _⟩ := hX' j hj'
        obtain ⟨_, hl', hcell⟩ := World.cells?_some h1
        refine ⟨cs', hl', h2, fun i u hu => ?_⟩
        have hi : i < d.sz := by
          have := (List.getElem?_eq_some_iff.1 hu).1
          omega
        have := hcell i hi
        rw [hu] at this
        rw [← this, Addr.add_add]
      · intro x hx
        obtain ⟨i, hi, rfl⟩ := List.mem_map.1 hx
        exact (hX' i (List.mem_range.1 hi)).choose_spec.2.2
theorem op_iso {d : Kd α} {Q : α → Prop} (f : β → α) (g : α → β) (hfg : ∀ a, f (g a) = a) (h : Rdd P w t d Q) : Rdd P w t (Kd.iso d f) (fun b => Q (f b)) := by
  intro H enc fuel cs x hx
  obtain ⟨a, hk, hq⟩ := h H enc fuel cs x hx
  refine ⟨g a, ?_, ?_⟩
  · show d.K w (f (g a)) cs
    rw [hfg]; exact hk
  · show Q (f (g a))
    rw [hfg]; exact hq
theorem op_struct2 {f0 f1 : Field} {d0 : Kd α} {d1 : Kd β} {Q0 : α → Prop} {Q1 : β → Prop} (ht : P.underlying t = some (.struct #[f0, f1])) (h0 : f0.offset = 0) (h1 : f1.offset = d0.sz)
    (z : P.cellsOf t = d0.sz + d1.sz) (z0 : P.cellsOf f0.type = d0.sz) (z1 : P.cellsOf f1.type = d1.sz)
    (o0 : Rdd P w f0.type d0 Q0) (o1 : Rdd P w f1.type d1 Q1) : Rdd P w t (Kd.pair d0 d1) (fun a => Q0 a.1 ∧ Q1 a.2) := by
  intro H enc fuel cs x hx
  obtain ⟨y0, y1, n, rfl, hl, g0, g1⟩ := trod_struct2 ht hx
  obtain ⟨a, hk, hq⟩ := o0 H enc n _ y0 g0
  obtain ⟨b, hk1, hq1⟩ := o1 H enc n _ y1 g1
  rw [h0, List.drop_zero, z0] at hk
  rw [h1, z1, List.take_of_length_le (by simp; omega)] at hk1
  exact ⟨(a, b), ⟨_, _, (List.take_append_drop d0.sz cs).symm, hk, hk1⟩, hq, hq1⟩
theorem op_struct3 {f0 f1 f2 : Field} {d0 : Kd α} {d1 : Kd β} {d2 : Kd γ} {Q0 : α → Prop} {Q1 : β → Prop} {Q2 : γ → Prop} (ht : P.underlying t = some (.struct #[f0, f1, f2])) (h0 : f0.offset = 0) (h1 : f1.offset = d0.sz)
    (h2 : f2.offset = d0.sz + d1.sz) (z : P.cellsOf t = d0.sz + (d1.sz + d2.sz)) (z0 : P.cellsOf f0.type = d0.sz) (z1 : P.cellsOf f1.type = d1.sz) (z2 : P.cellsOf f2.type = d2.sz)
    (o0 : Rdd P w f0.type d0 Q0) (o1 : Rdd P w f1.type d1 Q1) (o2 : Rdd P w f2.type d2 Q2) :
    Rdd P w t (Kd.pair d0 (Kd.pair d1 d2)) (fun a => Q0 a.1 ∧ Q1 a.2.1 ∧ Q2 a.2.2) := by
  intro H enc fuel cs x hx
  obtain ⟨y0, y1, y2, n, rfl, hl, g0, g1, g2⟩ := trod_struct3 ht hx
  obtain ⟨a, hk, hq⟩ := o0 H enc n _ y0 g0
  obtain ⟨b, hk1, hq1⟩ := o1 H enc n _ y1 g1
  obtain ⟨c, hk2, hq2⟩ := o2 H enc n _ y2 g2
  rw [h0, List.drop_zero, z0] at hk
  rw [h1, z1] at hk1
  rw [h2, z2, List.take_of_length_le (by simp; omega), ← List.drop_drop] at hk2
  exact ⟨(a, (b, c)), ⟨_, _, (List.take_append_drop d0.sz cs).symm, hk, ⟨_, _, (List.take_append_drop d1.sz (cs.drop d0.sz)).symm, hk1, hk2⟩⟩, hq, hq1, hq2⟩
theorem op_of {d : Kd α} {Q : α → Prop} {H : Type} {enc : TypeId × Value → H} {v : Value} {dd : DataW H} {ps : List MemPlace} (h : Rdd P w t d Q) (hx : DataW.Trod enc P w 0 (fun _ => true) true t v dd ps) :
    ∃ a, d.K w a v.cells.toList ∧ Q a := by
  obtain ⟨fuel, hf⟩ := hx
  exact h H enc fuel _ _ hf
end Go.Proofs.Ytjiipeidginjnaa.Opens

